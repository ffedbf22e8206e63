/-
  Part of the proof. No condition.
-/
import Derived.Test.YtldllfocpadkeaaGreatDoorG3
noncomputable section
namespace Nice
open Go Go.Eng
def inmW:L8:=[73,102,45,78,111,110,101,45,77,97,116,99,104]
def imW:L8:=[73,102,45,77,97,116,99,104]
def putW:L8:=[80,85,84]
def delW:L8:=[68,69,76,69,84,69]
abbrev HeadL:Type:=List (L8×L8×Unit)
abbrev ReqW:Type:=L8×L8×L8×HeadL×L8×Unit
def idxG (x:L8):List (L8)->Int->Int
 |[],_=> -1
 |y::r,k=>bif x==y then k else idxG x r (k+1)
def idxS (l:List (L8)) (x:L8):Int:=idxG x l 0
def hasS (l:List (L8)) (x:L8):Bool:=l.any λy=>x==y
def splitN (q:L8):List (L8):=Lib.split q [38]
def cutE (p:L8):L8×L8×Bool:=Lib.cut p [61]
def shortS (s:L8):Bool:=decide (s.length<4294967281)
def condsP (l:HeadL):Bool:=(valueP l inmW&&valueP l imW)&&bndS (valueN l imW).1
def tagA (s:L8):L8×Bool:=((cutSuf (cutPre s [34]).1 [34]).1,(cutPre s [34]).2&&((cutSuf (cutPre s [34]).1 [34]).2&&(gRead (cutSuf (cutPre s [34]).1 [34]).1).2))
def condsN (l:HeadL):Int×L8×Bool:=
 bif (valueN l inmW).2 then(bif (valueN l imW).2 then(0,[],false) else(1,[],(valueN l inmW).1==[42]))
 else bif (valueN l imW).2 then(2,(tagA (valueN l imW).1).1,(tagA (valueN l imW).1).2) else(0,[],true)
def setPut (a:AskD) (b:L8) (c:Int) (t:L8):AskD:=(2,a.2.1,a.2.2.1,b,c,t,a.2.2.2.2.2.2)
def setKV (a:AskD) (k v:Int):AskD:=(k,a.2.1,v,a.2.2.2)
def setCT (a:AskD) (c:Int) (t:L8):AskD:=(a.1,a.2.1,a.2.2.1,a.2.2.2.1,c,t,a.2.2.2.2.2.2)
def tagR (s:L8):L8:=(s.take 9).drop 1
def tagRB (s:L8):Bool:=decide (s.length=10)&&(s.getD 0 0==34&&(s.getD 9 0==34&&(rRead (tagR s)).2))
def rcondsN (l:HeadL) (a:AskD):AskD×Int:=
 bif (valueN l inmW).2 then(bif (valueN l imW).2 then(zAsk,400) else bif (valueN l inmW).1==[42] then(setCT a 1 a.2.2.2.2.2.1,0) else(zAsk,400))
 else bif (valueN l imW).2 then(bif tagRB (valueN l imW).1 then(setCT a 2 (tagR (valueN l imW).1),0) else(zAsk,400)) else(a,0)
def verN (q:L8):Int×Bool:=((numN (cutPre q vPre).1 (cutPre q vPre).1.length 1 1099511627776).1,(numN (cutPre q vPre).1 (cutPre q vPre).1.length 1 1099511627776).2&&((cutPre q vPre).2&& !((cutPre q vPre).1.getD 0 0==48)))
def keyedG (a:AskD) (m q:L8) (hs:HeadL) (b:L8):AskD×Bool:=
 bif isKey a.2.1 then
  bif m==putW then(setPut a b (condsN hs).1 (condsN hs).2.1,(condsN hs).2.2&&q==[])
  else bif q==[] then(setKV a (bif m==delW then 3 else 1) a.2.2.1,true)
  else(setKV a (bif m==delW then 3 else 1) (verN q).1,(verN q).2)
 else(a,false)
def lset (n v:L8) (a:AskD):AskD×Bool:=
 bif n==wPre then(setPre a v,keyB v)
 else bif n==wAft then(setAft a v,keyB v)
 else bif n==wMax then(setMax a (numN v 2 1 20).1,(numN v 2 1 20).2)
 else bif n==wVer then(setKind a 5,v==[49])
 else(a,false)
def listedGo:List (L8)->List (L8)->AskD->AskD×Bool
 |[],_,a=>(a,true)
 |p::r,seen,a=>
  bif (cutE p).2.2 then
   bif hasS seen (cutE p).1 then(a,false)
   else bif (lset (cutE p).1 (cutE p).2.1 a).2 then listedGo r (seen++[(cutE p).1]) (lset (cutE p).1 (cutE p).2.1 a).1
   else((lset (cutE p).1 (cutE p).2.1 a).1,false)
  else(a,false)
def listedN (a:AskD) (q:L8):AskD×Bool:=bif q==[] then(setMax (setKind a 4) 20,true) else listedGo (splitN q) [] (setMax (setKind a 4) 20)
def hasSufT:PSpec:=⟨[.str,.str],[.bool],λx=>bndS x.1,λx=>(hasSuf x.1 x.2.1,())⟩
def cutSufT:PSpec:=⟨[.str,.str],[.str,.bool],λx=>bndS x.1,λx=>((cutSuf x.1 x.2.1).1,(cutSuf x.1 x.2.1).2,())⟩
def splitS:PSpec:=⟨[.str,.str],[.slice .str],λx=>shortS x.1&&x.2.1==[38],λx=>(splitN x.1,())⟩
def cutES:PSpec:=⟨[.str,.str],[.str,.str,.bool],λx=>shortS x.1&&x.2.1==[61],λx=>((cutE x.1).1,(cutE x.1).2.1,(cutE x.1).2.2,())⟩
def idxSS:PSpec:=⟨[.slice .str,.str],[.int .i64],λx=>decide (x.1.length<=1000),λx=>(idxS x.1 x.2.1,())⟩
def hasSS:PSpec:=⟨[.slice .str,.str],[.bool],λx=>decide (x.1.length<=1000),λx=>(hasS x.1 x.2.1,())⟩
def condsS:PSpec:=⟨[ReqT],[.int .i64,.str,.bool],λx=>condsP x.1.2.2.2.1,λx=>((condsN x.1.2.2.2.1).1,(condsN x.1.2.2.2.1).2.1,(condsN x.1.2.2.2.1).2.2,())⟩
def rcondsS:PSpec:=⟨[ReqT,AskT],[AskT,.int .i64],λx=>condsP x.1.2.2.2.1,λx=>((rcondsN x.1.2.2.2.1 x.2.1).1,(rcondsN x.1.2.2.2.1 x.2.1).2,())⟩
def keyedGS:PSpec:=⟨[AskT,ReqT],[AskT,.bool],λx=>condsP x.2.1.2.2.2.1&&(bndS x.2.1.2.2.1&&bndS x.1.2.1),λx=>((keyedG x.1 x.2.1.1 x.2.1.2.2.1 x.2.1.2.2.2.1 x.2.1.2.2.2.2.1).1,(keyedG x.1 x.2.1.1 x.2.1.2.2.1 x.2.1.2.2.2.1 x.2.1.2.2.2.2.1).2,())⟩
def listedS:PSpec:=⟨[AskT,.str],[AskT,.bool],λx=>shortS x.2.1,λx=>((listedN x.1 x.2.1).1,(listedN x.1 x.2.1).2,())⟩
open Go Go.Eng
def ePre:L8:=[112,114,101,102,105,120,61]
def eAft:L8:=[97,102,116,101,114,61]
def eMax:L8:=[109,97,120,61]
def eVer:L8:=[118,101,114,115,105,111,110,115,61]
def getW:L8:=[71,69,84]
def headW:L8:=[72,69,65,68]
def oW:L8:=[47,111]
def ooW:L8:=[47,111,47]
def keyBS:PSpec:=⟨[.str],[.bool],λx=>bndS x.1,λx=>(keyB x.1,())⟩
def whichN (p:L8):Int:=bif hasPre p eVer then 3 else bif hasPre p eMax then 2 else bif hasPre p eAft then 1 else bif hasPre p ePre then 0 else -1
abbrev SeenD:Type:=Bool×Bool×Bool×Bool
def pset (p:L8) (sn:SeenD) (a:AskD):AskD×Bool×SeenD:=
 bif whichN p==0 then(bif sn.1 then(a,false,sn) else(setPre a (p.drop 7),keyB (p.drop 7),(true,sn.2)))
 else bif whichN p==1 then(bif sn.2.1 then(a,false,sn) else(setAft a (p.drop 6),keyB (p.drop 6),(sn.1,true,sn.2.2)))
 else bif whichN p==2 then(bif sn.2.2.1 then(a,false,sn) else bif (refNum (p.drop 4) 2).2&&(!decide ((refNum (p.drop 4) 2).1<1)&& !decide ((refNum (p.drop 4) 2).1>20)) then(setMax a (refNum (p.drop 4) 2).1,true,(sn.1,sn.2.1,true,sn.2.2.2)) else(a,false,sn))
 else bif whichN p==3 then(bif sn.2.2.2 then(a,false,sn) else bif p.drop 9==[49] then(setKind a 5,true,(sn.1,sn.2.1,sn.2.2.1,true)) else(a,false,sn))
 else(a,false,sn)
def partsGo:Nat->L8->SeenD->AskD->AskD×Bool
 |0,_,_,a=>(a,false)
 |f+1,q,sn,a=>
  bif (pset (upTo 38 q) sn a).2.1 then
   bif decide ((upTo 38 q).length=q.length) then((pset (upTo 38 q) sn a).1,true)
   else partsGo f (q.drop ((upTo 38 q).length+1)) (pset (upTo 38 q) sn a).2.2 (pset (upTo 38 q) sn a).1
  else((pset (upTo 38 q) sn a).1,false)
def partsN (q:L8) (a:AskD):AskD×Bool:=bif q==[] then(a,true) else partsGo (q.length+1) q (false,false,false,false) a
def partsS:PSpec:=⟨[.str,AskT],[AskT,.bool],λx=>bndS x.1,λx=>((partsN x.1 x.2.1).1,(partsN x.1 x.2.1).2,())⟩
open Go Go.Eng
theorem num2_eq (v:L8):((numN v 2 1 20).2=((refNum v 2).2&&(!decide ((refNum v 2).1<1)&& !decide ((refNum v 2).1>20))))/\((numN v 2 1 20).2=true->(numN v 2 1 20).1=(refNum v 2).1):=by
 unfold numN refNum;cases hd:allDig v
 ·simp
 by_cases hs:v=[]
 ·subst hs;simp[intN,Lib.parseIntB]
 have hl1:1<=v.length:=List.length_pos_iff.2 hs;obtain⟨i1,i2⟩:=intN_dig hd hs;by_cases hl:v.length<=2
 ·have hlt:=numV_lt' v hd 0;have hp:(10:Nat)^v.length<=10^2:=Nat.pow_le_pow_right (by decide) hl;have hv:valF 0 v=numV v:=rfl;have hn:numV v<9223372036854775808:=by omega
  rw[i1 hn];simp only[Bool.true_and,decide_eq_true (show(v.length:Int)<=2 by omega),cond_true,decide_eq_true hl1];refine⟨?_,λ_=>trivial⟩;by_cases a1:(numV v:Int)>=1
  ·by_cases a2:(numV v:Int)<=20
   ·rw[decide_eq_true a1,decide_eq_true a2,decide_eq_false (by omega),decide_eq_false (by omega)];rfl
   ·rw[decide_eq_true a1,decide_eq_false a2,decide_eq_false (by omega),decide_eq_true (by omega)];rfl
  ·rw[decide_eq_false a1,decide_eq_true (show(numV v:Int)<1 by omega)];rfl
 ·simp only[Bool.true_and,decide_eq_false (show ¬(v.length:Int)<=2 by omega),cond_false,Bool.false_and,Bool.and_false];exact⟨trivial,λh=>by cases h⟩
theorem hasPre_app (w r:L8):hasPre (w++r) w=true:=by
 unfold hasPre;rw[Bool.and_eq_true,decide_eq_true_eq,List.take_left];exact⟨by simp,beq_self_eq_true w⟩
theorem hasPre_inv {p w:L8} (h:hasPre p w=true):p=w++p.drop w.length:=by
 unfold hasPre at h;rw[Bool.and_eq_true,decide_eq_true_eq,beq_iff_eq] at h;have:=List.take_append_drop w.length p;rw[h.2] at this;exact this.symm
theorem hasB_app (c:UInt8) (a b:L8):hasB c (a++b)=(hasB c a||hasB c b):=by unfold hasB;rw[List.any_append]
theorem upTo_app {c:UInt8}:∀{w r:L8},hasB c w=false->upTo c (w++c::r)=w
 |[],r,_=>by simp[upTo]
 |b::w,r,h=>by
  simp only[hasB,List.any_cons,Bool.or_eq_false_iff] at h;simp only[List.cons_append,upTo,h.1,cond_false];rw[upTo_app h.2]
theorem upTo_split {c:UInt8} {p:L8} (h:hasB c p=true):p=upTo c p++c::p.drop ((upTo c p).length+1):=by
 induction p with
 |nil=>cases h
 |cons b r ih=>
  simp only[hasB,List.any_cons] at h;unfold upTo;cases hb:b==c
  ·rw[hb,Bool.false_or] at h;simp only[cond_false,List.cons_append,List.length_cons,List.drop_succ_cons];rw[<-ih h]
  ·have:b=c:=beq_iff_eq.1 hb;subst this;simp
theorem hasPre_name {p w:L8} (hw:hasB 61 w=false):hasPre p (w++[61])=(hasB 61 p&&upTo 61 p==w):=by
 cases hb:hasB 61 p
 ·cases h:hasPre p (w++[61])
  ·rfl
  ·have:=hasPre_inv h;rw[this,hasB_app,hasB_app] at hb;simp[hasB] at hb
 ·rw[Bool.true_and];by_cases he:upTo 61 p=w
  ·have hs:=upTo_split hb;rw[he] at hs;have:hasPre p (w++[61])=true:=by
    rw[hs,show w++(61:UInt8)::p.drop (w.length+1)=(w++[61])++p.drop (w.length+1) by simp];exact hasPre_app _ _
   rw[this,he,beq_self_eq_true]
  ·rw[beq_eq_false_iff_ne.2 he];cases h:hasPre p (w++[61])
   ·rfl
   ·have hi:=hasPre_inv h;exfalso;apply he;generalize p.drop (w++[61]).length=r at hi;rw[hi,show(w++[61])++r=w++(61:UInt8)::r by simp];exact upTo_app hw
theorem cutE_eq (p:L8):cutE p=bif hasB 61 p then(upTo 61 p,p.drop ((upTo 61 p).length+1),true) else(p,[],false):=cut1 61 p
theorem which_eq (p:L8):whichN p=bif hasB 61 p then(bif upTo 61 p==wVer then 3 else bif upTo 61 p==wMax then 2 else bif upTo 61 p==wAft then 1 else bif upTo 61 p==wPre then 0 else -1) else -1:=by
 have e1:hasPre p eVer=_:=hasPre_name (p:=p) (w:=wVer) (by decide);have e2:hasPre p eMax=_:=hasPre_name (p:=p) (w:=wMax) (by decide);have e3:hasPre p eAft=_:=hasPre_name (p:=p) (w:=wAft) (by decide);have e4:hasPre p ePre=_:=hasPre_name (p:=p) (w:=wPre) (by decide);unfold whichN;rw[e1,e2,e3,e4];cases hasB 61 p<;>simp only[Bool.false_and,Bool.true_and,cond_true,cond_false]
def seenOf (s:List (L8)):SeenD:=(hasS s wPre,hasS s wAft,hasS s wMax,hasS s wVer)
theorem seenOf_add (s:List (L8)) (x:L8):seenOf (s++[x])=(hasS s wPre||wPre==x,hasS s wAft||wAft==x,hasS s wMax||wMax==x,hasS s wVer||wVer==x):=by
 unfold seenOf hasS;simp
theorem d12:(wPre==wAft)=false:=by decide
theorem d13:(wPre==wMax)=false:=by decide
theorem d14:(wPre==wVer)=false:=by decide
theorem d21:(wAft==wPre)=false:=by decide
theorem d23:(wAft==wMax)=false:=by decide
theorem d24:(wAft==wVer)=false:=by decide
theorem d31:(wMax==wPre)=false:=by decide
theorem d32:(wMax==wAft)=false:=by decide
theorem d34:(wMax==wVer)=false:=by decide
theorem d41:(wVer==wPre)=false:=by decide
theorem d42:(wVer==wAft)=false:=by decide
theorem d43:(wVer==wMax)=false:=by decide
theorem part_eq (p:L8) (s:List (L8)) (a:AskD):
  (pset p (seenOf s) a).2.1=((cutE p).2.2&&(!hasS s (cutE p).1&&(lset (cutE p).1 (cutE p).2.1 a).2))/\
  ((pset p (seenOf s) a).2.1=true->(pset p (seenOf s) a).1=(lset (cutE p).1 (cutE p).2.1 a).1/\(pset p (seenOf s) a).2.2=seenOf (s++[(cutE p).1])):=by
 unfold pset;rw[which_eq,cutE_eq,seenOf_add];cases hb:hasB 61 p
 ·exact⟨rfl,λh=>by cases h⟩
 simp only[cond_true,Bool.true_and];unfold lset;by_cases h0:upTo 61 p=wPre
 ·rw[h0];simp only[d14,d13,d12,beq_self_eq_true,cond_true,cond_false,show((0:Int)==0)=true from rfl,seenOf,d21,d31,d41,Bool.or_true,Bool.or_false];rw[show p.drop (wPre.length+1)=p.drop 7 from rfl];cases hasS s wPre
  ·exact⟨by simp,λ_=>⟨rfl,rfl⟩⟩
  ·exact⟨rfl,λh=>by cases h⟩
 by_cases h1:upTo 61 p=wAft
 ·rw[h1];simp only[d24,d23,d21,beq_self_eq_true,cond_true,cond_false,show((1:Int)==0)=false from rfl,show((1:Int)==1)=true from rfl,seenOf,d12,d32,d42,Bool.or_true,Bool.or_false];rw[show p.drop (wAft.length+1)=p.drop 6 from rfl];cases hasS s wAft
  ·exact⟨by simp,λ_=>⟨rfl,rfl⟩⟩
  ·exact⟨rfl,λh=>by cases h⟩
 by_cases h2:upTo 61 p=wMax
 ·rw[h2];simp only[d34,d32,d31,beq_self_eq_true,cond_true,cond_false,show((2:Int)==0)=false from rfl,show((2:Int)==1)=false from rfl,show((2:Int)==2)=true from rfl,seenOf,d13,d23,d43,Bool.or_true,Bool.or_false];rw[show p.drop (wMax.length+1)=p.drop 4 from rfl];obtain⟨n1,n2⟩:=num2_eq (p.drop 4);cases hasS s wMax
  ·simp only[Bool.not_false,Bool.true_and,cond_false];rw[<-n1];cases hn:(numN (p.drop 4) 2 1 20).2
   ·exact⟨rfl,λh=>by cases h⟩
   ·rw[<-n2 hn];exact⟨rfl,λ_=>⟨rfl,rfl⟩⟩
  ·exact⟨rfl,λh=>by cases h⟩
 by_cases h3:upTo 61 p=wVer
 ·rw[h3];simp only[d41,d42,d43,beq_self_eq_true,cond_true,cond_false,show((3:Int)==0)=false from rfl,show((3:Int)==1)=false from rfl,show((3:Int)==2)=false from rfl,show((3:Int)==3)=true from rfl,seenOf,d14,d24,d34,Bool.or_true,Bool.or_false];rw[show p.drop (wVer.length+1)=p.drop 9 from rfl];cases hasS s wVer
  ·cases p.drop 9==[49]
   ·exact⟨rfl,λh=>by cases h⟩
   ·exact⟨rfl,λ_=>⟨rfl,rfl⟩⟩
  ·exact⟨rfl,λh=>by cases h⟩
 have b0:(upTo 61 p==wPre)=false:=beq_eq_false_iff_ne.2 h0;have b1:(upTo 61 p==wAft)=false:=beq_eq_false_iff_ne.2 h1;have b2:(upTo 61 p==wMax)=false:=beq_eq_false_iff_ne.2 h2;have b3:(upTo 61 p==wVer)=false:=beq_eq_false_iff_ne.2 h3;simp only[b0,b1,b2,b3,cond_false,Bool.and_false];exact⟨rfl,λh=>by cases h⟩
theorem go_eq:∀(f:Nat) (q:L8) (s:List (L8)) (a:AskD),q.length<f->
  (partsGo f q (seenOf s) a).2=(listedGo (splitN q) s a).2/\((listedGo (splitN q) s a).2=true->(partsGo f q (seenOf s) a).1=(listedGo (splitN q) s a).1)
 |0,q,s,a,h=>absurd h (Nat.not_lt_zero _)
 |f+1,q,s,a,h=>by
  obtain⟨p1,p2⟩:=part_eq (upTo 38 q) s a;have hu:=upTo_len 38 q;unfold partsGo;have key:∀(r:List (L8)),listedGo (upTo 38 q::r) s a=bif (pset (upTo 38 q) (seenOf s) a).2.1 then listedGo r (s++[(cutE (upTo 38 q)).1]) (lset (cutE (upTo 38 q)).1 (cutE (upTo 38 q)).2.1 a).1 else((listedGo (upTo 38 q::r) s a).1,false):=by
   intro r;rw[p1]
   conv=>lhs;unfold listedGo
   cases hc:(cutE (upTo 38 q)).2.2
   ·simp[listedGo,hc]
   ·cases hh:hasS s (cutE (upTo 38 q)).1
    ·cases hl:(lset (cutE (upTo 38 q)).1 (cutE (upTo 38 q)).2.1 a).2
     ·simp[listedGo,hc,hh,hl]
     ·simp
    ·simp[listedGo,hc,hh]
  by_cases he:(upTo 38 q).length=q.length
  ·have hno:=upTo_all 38 q he;have hsp:splitN q=[upTo 38 q]:=by
    show Lib.split q [38]=_;rw[split1_no 38 q hno,upTo_not 38 q hno]
   rw[hsp,key,decide_eq_true he];cases hp:(pset (upTo 38 q) (seenOf s) a).2.1
   ·exact⟨rfl,λh=>by cases h⟩
   ·simp only[cond_true,listedGo];exact⟨trivial,λ_=>(p2 hp).1⟩
  ·have hyes:hasB 38 q=true:=by
    cases hb:hasB 38 q
    ·rw[upTo_not 38 q hb] at he;exact absurd rfl he
    ·rfl
   have hsp:splitN q=upTo 38 q::splitN (q.drop ((upTo 38 q).length+1)):=split1_yes 38 q hyes;rw[hsp,key,decide_eq_false he];cases hp:(pset (upTo 38 q) (seenOf s) a).2.1
   ·exact⟨rfl,λh=>by cases h⟩
   ·simp only[cond_true,cond_false];obtain⟨e1,e2⟩:=p2 hp;rw[e1,e2];exact go_eq f (q.drop ((upTo 38 q).length+1)) (s++[(cutE (upTo 38 q)).1]) _ (by rw[List.length_drop];omega)
theorem query_eq (q:L8) (a:AskD):(partsN q (setMax (setKind a 4) 20)).2=(listedN a q).2/\((listedN a q).2=true->(partsN q (setMax (setKind a 4) 20)).1=(listedN a q).1):=by
 unfold partsN listedN;cases q==[]
 ·exact go_eq (q.length+1) q [] (setMax (setKind a 4) 20) (by omega)
 ·exact⟨rfl,λ_=>rfl⟩
theorem read_eq (s:L8):(gRead s).2=(rRead s).2:=by
 unfold gRead rRead;cases rdZ s<;>rfl
theorem gRead_len {s:L8} (h:(gRead s).2=true):s.length=8:=by
 unfold gRead rdZ at h;by_cases hl:s.length=8
 ·exact hl
 ·rw[decide_eq_false hl] at h;cases h
theorem pre34:∀s:L8,hasPre s [34]=(decide (1<=s.length)&&s.getD 0 0==34)
 |[]=>rfl
 |c::r=>by
  unfold hasPre;have e:(List.take ([34]:L8).length (c::r)==[34])=(c==34):=by
   show([c]==[34])=_;cases h:c==34
   ·rw[beq_eq_false_iff_ne] at h⊢;intro e;exact h (List.cons.inj e).1
   ·rw[beq_iff_eq.1 h];rfl
  rw[e];rfl
theorem suf34 (s:L8):hasSuf s [34]=(decide (1<=s.length)&&s.getD (s.length-1) 0==34):=by
 unfold hasSuf;by_cases h:1<=s.length
 ·have hl:s.length-1<s.length:=by omega
  have e:s.drop (s.length-([34]:L8).length)=[s.getD (s.length-1) 0]:=by
   show s.drop (s.length-1)=_;rw[List.drop_eq_getElem_cons hl,List.getD_eq_getElem?_getD,List.getElem?_eq_getElem hl];rw[show s.length-1+1=s.length by omega,List.drop_length];rfl
  rw[e];show(decide (1<=s.length)&&_)=_;congr 1;cases h:s.getD (s.length-1) 0==34
  ·rw[beq_eq_false_iff_ne] at h⊢;intro e;exact h (List.cons.inj e).1
  ·rw[beq_iff_eq.1 h];rfl
 ·rw[show decide (([34]:L8).length<=s.length)=false from decide_eq_false h,decide_eq_false h];rfl
theorem tag_eq (s:L8):(tagA s).2=tagRB s/\((tagA s).2=true->(tagA s).1=tagR s):=by
 unfold tagA;have hpre:=pre34 s;cases h0:hasPre s [34]
 ·have hc:cutPre s [34]=(s,false):=by unfold cutPre;rw[h0];rfl
  rw[hc];refine⟨?_,λh=>by cases h⟩;rw[Bool.false_and];unfold tagRB;by_cases hl:s.length=10
  ·rw[h0] at hpre;rw[decide_eq_true (by omega),Bool.true_and] at hpre;rw[<-hpre,Bool.false_and,Bool.and_false]
  ·rw[decide_eq_false hl];rfl
 have hc:cutPre s [34]=(s.drop 1,true):=by unfold cutPre;rw[h0];rfl
 rw[hc];dsimp only;rw[Bool.true_and];rw[h0] at hpre;have hp2:=hpre.symm;rw[Bool.and_eq_true,decide_eq_true_eq] at hp2;obtain⟨hl1,hg0⟩:=hp2;have hsuf:=suf34 (s.drop 1);rw[List.length_drop] at hsuf;cases h1:hasSuf (s.drop 1) [34]
 ·have hd:cutSuf (s.drop 1) [34]=(s.drop 1,false):=by unfold cutSuf;rw[h1];rfl
  rw[hd];refine⟨?_,λh=>by cases h⟩;rw[Bool.false_and];unfold tagRB;by_cases hl:s.length=10
  ·rw[h1,hl,decide_eq_true (by omega),Bool.true_and] at hsuf;have e9:(s.drop 1).getD (10-1-1) 0=s.getD 9 0:=by
    rw[List.getD_eq_getElem?_getD,List.getD_eq_getElem?_getD,List.getElem?_drop]
   rw[e9] at hsuf;rw[<-hsuf,Bool.false_and,Bool.and_false,Bool.and_false]
  ·rw[decide_eq_false hl];rfl
 have hd:cutSuf (s.drop 1) [34]=((s.drop 1).take (s.length-2),true):=by
  unfold cutSuf;rw[h1,cond_true,List.length_drop];rfl
 rw[hd];dsimp only;rw[Bool.true_and];unfold tagRB;by_cases hl:s.length=10
 ·have et:(s.drop 1).take (s.length-2)=tagR s:=by
   unfold tagR;rw[hl,List.drop_take]
  rw[h1,hl,decide_eq_true (by omega),Bool.true_and] at hsuf;have e9:(s.drop 1).getD (10-1-1) 0=s.getD 9 0:=by
   rw[List.getD_eq_getElem?_getD,List.getD_eq_getElem?_getD,List.getElem?_drop]
  rw[e9] at hsuf;rw[et,decide_eq_true hl,hg0,<-hsuf,read_eq];exact⟨rfl,λ_=>rfl⟩
 ·rw[decide_eq_false hl,Bool.false_and];have:(gRead ((s.drop 1).take (s.length-2))).2=false:=by
   cases hg:(gRead ((s.drop 1).take (s.length-2))).2
   ·rfl
   ·have:=gRead_len hg;rw[List.length_take,List.length_drop] at this;omega
  rw[this];exact⟨rfl,λh=>by cases h⟩
theorem conds_eq (l:HeadL) (a:AskD) (h1:a.2.2.2.2.1=0) (h2:a.2.2.2.2.2.1=[]):rcondsN l a=bif (condsN l).2.2 then(setCT a (condsN l).1 (condsN l).2.1,0) else(zAsk,400):=by
 obtain⟨a0,a1,a2,a3,a4,a5,a6,a7,a8,a9,⟨⟩⟩:=a;dsimp only at h1 h2;subst h1 h2;unfold rcondsN condsN;cases(valueN l inmW).2
 ·cases(valueN l imW).2
  ·rfl
  ·simp only[cond_true,cond_false];obtain⟨t1,t2⟩:=tag_eq (valueN l imW).1;rw[<-t1];cases ht:(tagA (valueN l imW).1).2
   ·rfl
   ·rw[t2 ht]
 ·cases(valueN l imW).2
  ·cases(valueN l inmW).1==[42]<;>rfl
  ·rfl
open Go Go.Eng
def kAsk (k:L8) (b:Bool):AskD:=(0,k,0,[],0,[],[],[],0,b,())
def bAsk (b:Bool):AskD:=(0,[],0,[],0,[],[],[],0,b,())
def listOut (h:Bool) (q b:L8):AskD×Int:=bif (listedN (bAsk h) q).2&&b==[] then((listedN (bAsk h) q).1,0) else(zAsk,400)
def keyOut (h:Bool) (m p q:L8) (hs:HeadL) (b:L8):AskD×Int:=
 bif (keyedG (kAsk (p.drop 3) h) m q hs b).2&&(m==putW||b==[]) then((keyedG (kAsk (p.drop 3) h) m q hs b).1,0) else(zAsk,400)
def ofN (r:ReqW):AskD×Int:=
 bif r.2.1==oW||r.2.1==ooW then(bif r.1==getW||r.1==headW then listOut (r.1==headW) r.2.2.1 r.2.2.2.2.1 else(zAsk,405))
 else bif hasPre r.2.1 ooW then(bif (r.1==getW||r.1==headW)||(r.1==putW||r.1==delW) then keyOut (r.1==headW) r.1 r.2.1 r.2.2.1 r.2.2.2.1 r.2.2.2.2.1 else(zAsk,405))
 else(zAsk,404)
def ofP (r:ReqW):Bool:=condsP r.2.2.2.1&&(shortS r.2.2.1&&bndS r.2.1)
def ofS:PSpec:=⟨[ReqT],[AskT,.int .i64],λx=>ofP x.1,λx=>((ofN x.1).1,(ofN x.1).2,())⟩
def verRB (q:L8):Bool:= !decide ((q.length:Int)<=8)&&(q.take 8==vPre&&(!(q.getD 8 0==48)&&((refNum (q.drop 8) 13).2&&(!decide ((refNum (q.drop 8) 13).1<1)&& !decide ((refNum (q.drop 8) 13).1>1099511627776)))))
theorem numN_pos' {s:L8} {most lo hi:Int} (h:(numN s most lo hi).2=true):0<s.length:=by
 cases s with
 |nil=>simp[numN,intN,Lib.parseIntB] at h
 |cons c r=>simp
theorem ver_q (q:L8):(verN q).2=verRB q/\((verN q).2=true->(verN q).1=(refNum (q.drop 8) 13).1):=by
 unfold verN verRB;have hp:hasPre q vPre=(decide (8<=q.length)&&q.take 8==vPre):=rfl;cases h:hasPre q vPre
 ·have hc:cutPre q vPre=(q,false):=by unfold cutPre;rw[h];rfl
  rw[hc];dsimp only;rw[Bool.false_and,Bool.and_false];refine⟨?_,λh=>by cases h⟩;by_cases hl:8<=q.length
  ·rw[h,decide_eq_true hl,Bool.true_and] at hp;rw[<-hp,Bool.false_and,Bool.and_false]
  ·rw[decide_eq_true (by omega:(q.length:Int)<=8)];rfl
 ·have hc:cutPre q vPre=(q.drop 8,true):=by unfold cutPre;rw[h];rfl
  rw[hc];dsimp only;rw[Bool.true_and];rw[h] at hp;have hp2:=hp.symm;rw[Bool.and_eq_true,decide_eq_true_eq] at hp2;rw[hp2.2,Bool.true_and];have eg:(q.drop 8).getD 0 0=q.getD 8 0:=by
   rw[List.getD_eq_getElem?_getD,List.getD_eq_getElem?_getD,List.getElem?_drop]
  rw[eg];by_cases hl:q.length=8
  ·have he:q.drop 8=[]:=List.drop_eq_nil_of_le (by omega);rw[decide_eq_true (by omega:(q.length:Int)<=8),he];exact⟨rfl,λh=>by
    rw[Bool.and_eq_true] at h;have:=numN_pos' h.1;simp at this⟩
  ·rw[decide_eq_false (by omega:¬(q.length:Int)<=8),Bool.not_false,Bool.true_and];cases h48:q.getD 8 0==48
   ·have h0:(q.drop 8).getD 0 0≠48:=by rw[eg];exact beq_eq_false_iff_ne.1 h48
    obtain⟨v1,v2⟩:=ver_eq (q.drop 8) h0;rw[Bool.not_false,Bool.and_true,Bool.true_and];exact⟨v1,v2⟩
   ·rw[Bool.not_true,Bool.and_false,Bool.false_and];exact⟨rfl,λh=>by cases h⟩
end Nice
namespace Go.Proofs.YtldllfocpadkeaaGreatDoor
open Go Go.Eng Nice
set_option maxRecDepth 1000000
abbrev shaOfGet:List (Nat×List (Nat×Sh)):=[]
def oaOfGet (x:DenL [ReqT]):Option (DenL [AskT,.int .i64]):=fO Tryz.prog (envS [(131,hasPreS),(89,listedS),(90,keyedGS)]) (shOf shaOfGet) Tryz.f47 [ReqT] [AskT,.int .i64] x
theorem eaOfGet_g (N:Nat) (x1 x2:L8) (x3:List (L8×L8×Unit)) (x4:L8) {Qc}[Qc':QA (some (zAsk,(400:Int),())) Qc] {Qa}[Qa':QA (bif (listedN zAsk x2).snd then (gd [shortS x2] (bif !x4==[] then Qc else (some ((listedN zAsk x2).fst,(0:Int),())))) else (gd [shortS x2] Qc)) Qa] {Qb}[Qb':QA (keyedG ((0:Int),List.drop 3 x1,(0:Int),[],(0:Int),[],[],[],(0:Int),false,()) getW x2 x3 x4) Qb] {Qd}[Qd':QA (bndS x2&&bndS (List.drop 3 x1)) Qd]:fON Tryz.prog (envS [(131,hasPreS),(89,listedS),(90,keyedGS)]) (shOf shaOfGet) Tryz.f47 [ReqT] [AskT,.int .i64] N ((getW,x1,x2,x3,x4,()),())= (bif x1==oW then Qa else (bif x1==ooW then Qa else (bif !hasPre x1 ooW then (some (zAsk,(404:Int),())) else (gd [decide ((3:Int)<=(↑x1.length:Int))] (bif Qb.snd then (gd [condsP x3&&Qd] (bif !x4==[] then Qc else (some (Qb.fst,(0:Int),())))) else (gd [condsP x3&&Qd] Qc)))))):=by obtain ⟨rfl⟩:=Qd';obtain ⟨rfl⟩:=Qb';obtain ⟨rfl⟩:=Qa';obtain ⟨rfl⟩:=Qc';kernel_rfl
theorem oaOfGet_g (x:DenL [ReqT]):oaOfGet x=fON Tryz.prog (envS [(131,hasPreS),(89,listedS),(90,keyedGS)]) (shOf shaOfGet) Tryz.f47 [ReqT] [AskT,.int .i64] heads0 x:=rfl
abbrev shrOfGet:List (Nat×List (Nat×Sh)):=[]
def orOfGet (x:DenL [ReqT]):Option (DenL [AskT,.int .i64]):=fO Tryz.prog (envS [(74,isKeyS),(75,refNumS),(73,partsS),(76,rcondsS)]) (shOf shrOfGet) Tryz.f32 [ReqT] [AskT,.int .i64] x
theorem erOfGet_g (N:Nat) (x1 x2:L8) (x3:List (L8×L8×Unit)) (x4:L8) {Qb}[Qb':QA (some (zAsk,(400:Int),())) Qb] {Qe}[Qe':QA (partsN x2 ((4:Int),[],(0:Int),[],(0:Int),[],[],[],(20:Int),false,())) Qe] {Qa}[Qa':QA (bif !x4==[] then Qb else (bif Qe.snd then (gd [bndS x2] (some (Qe.fst,(0:Int),()))) else (gd [bndS x2] Qb))) Qa] {Qc}[Qc':QA (↑x2.length:Int) Qc] {Qh}[Qh':QA (List.drop 8 x2) Qh] {Qd}[Qd':QA (refNum Qh ((13:Int))) Qd] {Qf}[Qf':QA (↑x1.length:Int) Qf] {Qg}[Qg':QA (List.drop 3 x1) Qg]:fON Tryz.prog (envS [(74,isKeyS),(75,refNumS),(73,partsS),(76,rcondsS)]) (shOf shrOfGet) Tryz.f32 [ReqT] [AskT,.int .i64] N ((getW,x1,x2,x3,x4,()),())= (bif x1==oW then Qa else (bif x1==ooW then Qa else (bif decide (Qf<4) then (some (zAsk,(404:Int),())) else (bif !List.take 3 x1==ooW then (gd [decide ((3:Int)<=Qf)] (some (zAsk,(404:Int),()))) else (gd [decide ((3:Int)<=Qf)] (bif !x4==[] then Qb else (gd [decide ((3:Int)<=Qf)] (bif isKey Qg then (gd [bndS Qg] (bif !x2==[] then (bif decide (Qc<=8) then Qb else (bif !List.take 8 x2==vPre then (gd [decide ((8:Int)<=Qc)] Qb) else (bif (↑(x2.getD 8 0).toNat:Int)==48 then (gd [decide ((8:Int)<Qc),decide ((8:Int)<=Qc)] Qb) else (gd [decide ((8:Int)<Qc),decide ((8:Int)<=Qc)] (bif Qd.snd then (gd [refNumP Qh ((13:Int)),decide ((8:Int)<=Qc)] (bif decide (Qd.fst<1) then Qb else (bif decide (Qd.fst>1099511627776) then Qb else (some (((1:Int),List.drop 3 x1,Qd.fst,[],(0:Int),[],[],[],(0:Int),false,()),(0:Int),()))))) else (gd [refNumP Qh ((13:Int)),decide ((8:Int)<=Qc)] Qb)))))) else (some (((1:Int),List.drop 3 x1,(0:Int),[],(0:Int),[],[],[],(0:Int),false,()),(0:Int),())))) else (gd [bndS Qg] Qb))))))))):=by obtain ⟨rfl⟩:=Qg';obtain ⟨rfl⟩:=Qf';obtain ⟨rfl⟩:=Qd';obtain ⟨rfl⟩:=Qh';obtain ⟨rfl⟩:=Qc';obtain ⟨rfl⟩:=Qa';obtain ⟨rfl⟩:=Qe';obtain ⟨rfl⟩:=Qb';kernel_rfl
theorem orOfGet_g (x:DenL [ReqT]):orOfGet x=fON Tryz.prog (envS [(74,isKeyS),(75,refNumS),(73,partsS),(76,rcondsS)]) (shOf shrOfGet) Tryz.f32 [ReqT] [AskT,.int .i64] heads0 x:=rfl
abbrev shaOfHead:List (Nat×List (Nat×Sh)):=[]
def oaOfHead (x:DenL [ReqT]):Option (DenL [AskT,.int .i64]):=fO Tryz.prog (envS [(131,hasPreS),(89,listedS),(90,keyedGS)]) (shOf shaOfHead) Tryz.f47 [ReqT] [AskT,.int .i64] x
theorem eaOfHead_g (N:Nat) (x1 x2:L8) (x3:List (L8×L8×Unit)) (x4:L8) {Qc}[Qc':QA (some (zAsk,(400:Int),())) Qc] {Qd}[Qd':QA (listedN ((0:Int),[],(0:Int),[],(0:Int),[],[],[],(0:Int),true,()) x2) Qd] {Qa}[Qa':QA (bif Qd.snd then (gd [shortS x2] (bif !x4==[] then Qc else (some (Qd.fst,(0:Int),())))) else (gd [shortS x2] Qc)) Qa] {Qb}[Qb':QA (keyedG ((0:Int),List.drop 3 x1,(0:Int),[],(0:Int),[],[],[],(0:Int),true,()) headW x2 x3 x4) Qb] {Qe}[Qe':QA (bndS x2&&bndS (List.drop 3 x1)) Qe]:fON Tryz.prog (envS [(131,hasPreS),(89,listedS),(90,keyedGS)]) (shOf shaOfHead) Tryz.f47 [ReqT] [AskT,.int .i64] N ((headW,x1,x2,x3,x4,()),())= (bif x1==oW then Qa else (bif x1==ooW then Qa else (bif !hasPre x1 ooW then (some (zAsk,(404:Int),())) else (gd [decide ((3:Int)<=(↑x1.length:Int))] (bif Qb.snd then (gd [condsP x3&&Qe] (bif !x4==[] then Qc else (some (Qb.fst,(0:Int),())))) else (gd [condsP x3&&Qe] Qc)))))):=by obtain ⟨rfl⟩:=Qe';obtain ⟨rfl⟩:=Qb';obtain ⟨rfl⟩:=Qa';obtain ⟨rfl⟩:=Qd';obtain ⟨rfl⟩:=Qc';kernel_rfl
theorem oaOfHead_g (x:DenL [ReqT]):oaOfHead x=fON Tryz.prog (envS [(131,hasPreS),(89,listedS),(90,keyedGS)]) (shOf shaOfHead) Tryz.f47 [ReqT] [AskT,.int .i64] heads0 x:=rfl
abbrev shrOfHead:List (Nat×List (Nat×Sh)):=[]
def orOfHead (x:DenL [ReqT]):Option (DenL [AskT,.int .i64]):=fO Tryz.prog (envS [(74,isKeyS),(75,refNumS),(73,partsS),(76,rcondsS)]) (shOf shrOfHead) Tryz.f32 [ReqT] [AskT,.int .i64] x
theorem erOfHead_g (N:Nat) (x1 x2:L8) (x3:List (L8×L8×Unit)) (x4:L8) {Qb}[Qb':QA (some (zAsk,(400:Int),())) Qb] {Qe}[Qe':QA (partsN x2 ((4:Int),[],(0:Int),[],(0:Int),[],[],[],(20:Int),true,())) Qe] {Qa}[Qa':QA (bif !x4==[] then Qb else (bif Qe.snd then (gd [bndS x2] (some (Qe.fst,(0:Int),()))) else (gd [bndS x2] Qb))) Qa] {Qc}[Qc':QA (↑x2.length:Int) Qc] {Qh}[Qh':QA (List.drop 8 x2) Qh] {Qd}[Qd':QA (refNum Qh ((13:Int))) Qd] {Qf}[Qf':QA (↑x1.length:Int) Qf] {Qg}[Qg':QA (List.drop 3 x1) Qg]:fON Tryz.prog (envS [(74,isKeyS),(75,refNumS),(73,partsS),(76,rcondsS)]) (shOf shrOfHead) Tryz.f32 [ReqT] [AskT,.int .i64] N ((headW,x1,x2,x3,x4,()),())= (bif x1==oW then Qa else (bif x1==ooW then Qa else (bif decide (Qf<4) then (some (zAsk,(404:Int),())) else (bif !List.take 3 x1==ooW then (gd [decide ((3:Int)<=Qf)] (some (zAsk,(404:Int),()))) else (gd [decide ((3:Int)<=Qf)] (bif !x4==[] then Qb else (gd [decide ((3:Int)<=Qf)] (bif isKey Qg then (gd [bndS Qg] (bif !x2==[] then (bif decide (Qc<=8) then Qb else (bif !List.take 8 x2==vPre then (gd [decide ((8:Int)<=Qc)] Qb) else (bif (↑(x2.getD 8 0).toNat:Int)==48 then (gd [decide ((8:Int)<Qc),decide ((8:Int)<=Qc)] Qb) else (gd [decide ((8:Int)<Qc),decide ((8:Int)<=Qc)] (bif Qd.snd then (gd [refNumP Qh ((13:Int)),decide ((8:Int)<=Qc)] (bif decide (Qd.fst<1) then Qb else (bif decide (Qd.fst>1099511627776) then Qb else (some (((1:Int),List.drop 3 x1,Qd.fst,[],(0:Int),[],[],[],(0:Int),true,()),(0:Int),()))))) else (gd [refNumP Qh ((13:Int)),decide ((8:Int)<=Qc)] Qb)))))) else (some (((1:Int),List.drop 3 x1,(0:Int),[],(0:Int),[],[],[],(0:Int),true,()),(0:Int),())))) else (gd [bndS Qg] Qb))))))))):=by obtain ⟨rfl⟩:=Qg';obtain ⟨rfl⟩:=Qf';obtain ⟨rfl⟩:=Qd';obtain ⟨rfl⟩:=Qh';obtain ⟨rfl⟩:=Qc';obtain ⟨rfl⟩:=Qa';obtain ⟨rfl⟩:=Qe';obtain ⟨rfl⟩:=Qb';kernel_rfl
theorem orOfHead_g (x:DenL [ReqT]):orOfHead x=fON Tryz.prog (envS [(74,isKeyS),(75,refNumS),(73,partsS),(76,rcondsS)]) (shOf shrOfHead) Tryz.f32 [ReqT] [AskT,.int .i64] heads0 x:=rfl
abbrev shaOfPut:List (Nat×List (Nat×Sh)):=[]
def oaOfPut (x:DenL [ReqT]):Option (DenL [AskT,.int .i64]):=fO Tryz.prog (envS [(131,hasPreS),(89,listedS),(90,keyedGS)]) (shOf shaOfPut) Tryz.f47 [ReqT] [AskT,.int .i64] x
theorem eaOfPut_g (N:Nat) (x1 x2:L8) (x3:List (L8×L8×Unit)) (x4:L8) {Qa}[Qa':QA (keyedG ((0:Int),List.drop 3 x1,(0:Int),[],(0:Int),[],[],[],(0:Int),false,()) putW x2 x3 x4) Qa] {Qb}[Qb':QA (bndS x2&&bndS (List.drop 3 x1)) Qb]:fON Tryz.prog (envS [(131,hasPreS),(89,listedS),(90,keyedGS)]) (shOf shaOfPut) Tryz.f47 [ReqT] [AskT,.int .i64] N ((putW,x1,x2,x3,x4,()),())= (bif x1==oW then (some (zAsk,(405:Int),())) else (bif x1==ooW then (some (zAsk,(405:Int),())) else (bif !hasPre x1 ooW then (some (zAsk,(404:Int),())) else (gd [decide ((3:Int)<=(↑x1.length:Int))] (bif Qa.snd then (gd [condsP x3&&Qb] (bif !x4==[] then (some (Qa.fst,(0:Int),())) else (some (Qa.fst,(0:Int),())))) else (gd [condsP x3&&Qb] (some (zAsk,(400:Int),())))))))):=by obtain ⟨rfl⟩:=Qb';obtain ⟨rfl⟩:=Qa';kernel_rfl
theorem oaOfPut_g (x:DenL [ReqT]):oaOfPut x=fON Tryz.prog (envS [(131,hasPreS),(89,listedS),(90,keyedGS)]) (shOf shaOfPut) Tryz.f47 [ReqT] [AskT,.int .i64] heads0 x:=rfl
abbrev shrOfPut:List (Nat×List (Nat×Sh)):=[]
def orOfPut (x:DenL [ReqT]):Option (DenL [AskT,.int .i64]):=fO Tryz.prog (envS [(74,isKeyS),(75,refNumS),(73,partsS),(76,rcondsS)]) (shOf shrOfPut) Tryz.f32 [ReqT] [AskT,.int .i64] x
theorem erOfPut_g (N:Nat) (x1 x2:L8) (x3:List (L8×L8×Unit)) (x4:L8) {Qb}[Qb':QA (rcondsN x3 ((2:Int),List.drop 3 x1,(0:Int),x4,(0:Int),[],[],[],(0:Int),false,())) Qb] {Qc}[Qc':QA (↑x1.length:Int) Qc] {Qd}[Qd':QA (List.drop 3 x1) Qd] {Qa}[Qa':QA (gd [decide ((3:Int)<=Qc)] (bif isKey Qd then (gd [bndS Qd] (bif !x2==[] then (some (zAsk,(400:Int),())) else (gd [condsP x3] (some (Qb.fst,Qb.snd,()))))) else (gd [bndS Qd] (some (zAsk,(400:Int),()))))) Qa]:fON Tryz.prog (envS [(74,isKeyS),(75,refNumS),(73,partsS),(76,rcondsS)]) (shOf shrOfPut) Tryz.f32 [ReqT] [AskT,.int .i64] N ((putW,x1,x2,x3,x4,()),())= (bif x1==oW then (some (zAsk,(405:Int),())) else (bif x1==ooW then (some (zAsk,(405:Int),())) else (bif decide (Qc<4) then (some (zAsk,(404:Int),())) else (bif !List.take 3 x1==ooW then (gd [decide ((3:Int)<=Qc)] (some (zAsk,(404:Int),()))) else (gd [decide ((3:Int)<=Qc)] (bif !x4==[] then Qa else Qa)))))):=by obtain ⟨rfl⟩:=Qa';obtain ⟨rfl⟩:=Qd';obtain ⟨rfl⟩:=Qc';obtain ⟨rfl⟩:=Qb';kernel_rfl
theorem orOfPut_g (x:DenL [ReqT]):orOfPut x=fON Tryz.prog (envS [(74,isKeyS),(75,refNumS),(73,partsS),(76,rcondsS)]) (shOf shrOfPut) Tryz.f32 [ReqT] [AskT,.int .i64] heads0 x:=rfl
abbrev shaOfDel:List (Nat×List (Nat×Sh)):=[]
def oaOfDel (x:DenL [ReqT]):Option (DenL [AskT,.int .i64]):=fO Tryz.prog (envS [(131,hasPreS),(89,listedS),(90,keyedGS)]) (shOf shaOfDel) Tryz.f47 [ReqT] [AskT,.int .i64] x
theorem eaOfDel_g (N:Nat) (x1 x2:L8) (x3:List (L8×L8×Unit)) (x4:L8) {Qa}[Qa':QA (keyedG ((0:Int),List.drop 3 x1,(0:Int),[],(0:Int),[],[],[],(0:Int),false,()) delW x2 x3 x4) Qa] {Qb}[Qb':QA (bndS x2&&bndS (List.drop 3 x1)) Qb]:fON Tryz.prog (envS [(131,hasPreS),(89,listedS),(90,keyedGS)]) (shOf shaOfDel) Tryz.f47 [ReqT] [AskT,.int .i64] N ((delW,x1,x2,x3,x4,()),())= (bif x1==oW then (some (zAsk,(405:Int),())) else (bif x1==ooW then (some (zAsk,(405:Int),())) else (bif !hasPre x1 ooW then (some (zAsk,(404:Int),())) else (gd [decide ((3:Int)<=(↑x1.length:Int))] (bif Qa.snd then (gd [condsP x3&&Qb] (bif !x4==[] then (some (zAsk,(400:Int),())) else (some (Qa.fst,(0:Int),())))) else (gd [condsP x3&&Qb] (some (zAsk,(400:Int),())))))))):=by obtain ⟨rfl⟩:=Qb';obtain ⟨rfl⟩:=Qa';kernel_rfl
theorem oaOfDel_g (x:DenL [ReqT]):oaOfDel x=fON Tryz.prog (envS [(131,hasPreS),(89,listedS),(90,keyedGS)]) (shOf shaOfDel) Tryz.f47 [ReqT] [AskT,.int .i64] heads0 x:=rfl
abbrev shrOfDel:List (Nat×List (Nat×Sh)):=[]
def orOfDel (x:DenL [ReqT]):Option (DenL [AskT,.int .i64]):=fO Tryz.prog (envS [(74,isKeyS),(75,refNumS),(73,partsS),(76,rcondsS)]) (shOf shrOfDel) Tryz.f32 [ReqT] [AskT,.int .i64] x
theorem erOfDel_g (N:Nat) (x1 x2:L8) (x3:List (L8×L8×Unit)) (x4:L8) {Qa}[Qa':QA (some (zAsk,(400:Int),())) Qa] {Qb}[Qb':QA (↑x2.length:Int) Qb] {Qf}[Qf':QA (List.drop 8 x2) Qf] {Qc}[Qc':QA (refNum Qf ((13:Int))) Qc] {Qd}[Qd':QA (↑x1.length:Int) Qd] {Qe}[Qe':QA (List.drop 3 x1) Qe]:fON Tryz.prog (envS [(74,isKeyS),(75,refNumS),(73,partsS),(76,rcondsS)]) (shOf shrOfDel) Tryz.f32 [ReqT] [AskT,.int .i64] N ((delW,x1,x2,x3,x4,()),())= (bif x1==oW then (some (zAsk,(405:Int),())) else (bif x1==ooW then (some (zAsk,(405:Int),())) else (bif decide (Qd<4) then (some (zAsk,(404:Int),())) else (bif !List.take 3 x1==ooW then (gd [decide ((3:Int)<=Qd)] (some (zAsk,(404:Int),()))) else (gd [decide ((3:Int)<=Qd)] (bif !x4==[] then Qa else (gd [decide ((3:Int)<=Qd)] (bif isKey Qe then (gd [bndS Qe] (bif !x2==[] then (bif decide (Qb<=8) then Qa else (bif !List.take 8 x2==vPre then (gd [decide ((8:Int)<=Qb)] Qa) else (bif (↑(x2.getD 8 0).toNat:Int)==48 then (gd [decide ((8:Int)<Qb),decide ((8:Int)<=Qb)] Qa) else (gd [decide ((8:Int)<Qb),decide ((8:Int)<=Qb)] (bif Qc.snd then (gd [refNumP Qf ((13:Int)),decide ((8:Int)<=Qb)] (bif decide (Qc.fst<1) then Qa else (bif decide (Qc.fst>1099511627776) then Qa else (some (((3:Int),List.drop 3 x1,Qc.fst,[],(0:Int),[],[],[],(0:Int),false,()),(0:Int),()))))) else (gd [refNumP Qf ((13:Int)),decide ((8:Int)<=Qb)] Qa)))))) else (some (((3:Int),List.drop 3 x1,(0:Int),[],(0:Int),[],[],[],(0:Int),false,()),(0:Int),())))) else (gd [bndS Qe] Qa))))))))):=by obtain ⟨rfl⟩:=Qe';obtain ⟨rfl⟩:=Qd';obtain ⟨rfl⟩:=Qc';obtain ⟨rfl⟩:=Qf';obtain ⟨rfl⟩:=Qb';obtain ⟨rfl⟩:=Qa';kernel_rfl
theorem orOfDel_g (x:DenL [ReqT]):orOfDel x=fON Tryz.prog (envS [(74,isKeyS),(75,refNumS),(73,partsS),(76,rcondsS)]) (shOf shrOfDel) Tryz.f32 [ReqT] [AskT,.int .i64] heads0 x:=rfl
abbrev shaOfO:List (Nat×List (Nat×Sh)):=[]
def oaOfO (x:DenL [ReqT]):Option (DenL [AskT,.int .i64]):=fO Tryz.prog (envS [(131,hasPreS),(89,noS [AskT,.str] [AskT,.bool]),(90,noS [AskT,ReqT] [AskT,.bool])]) (shOf shaOfO) Tryz.f47 [ReqT] [AskT,.int .i64] x
theorem eaOfO_g (N:Nat) (x0 x1 x2:L8) (x3:List (L8×L8×Unit)) (x4:L8) {Qa}[Qa':QA (gd [decide ((3:Int)<=(↑x1.length:Int))] (none)) Qa] {Qe}[Qe':QA (some (zAsk,(405:Int),())) Qe] {Qb}[Qb':QA (bif x0==getW then (gd [x0==headW] (none)) else (bif x0==headW then (gd [x0==headW] (none)) else (bif x0==headW then Qe else Qe))) Qb] {Qc}[Qc':QA (bif !hasPre x1 ooW then (some (zAsk,(404:Int),())) else Qa) Qc] {Qd}[Qd':QA (bif !hasPre x1 ooW then (some (zAsk,(404:Int),())) else (bif !x0==putW then (bif !x0==delW then Qe else Qa) else Qa)) Qd] {Qf}[Qf':QA (bif x0==headW then Qc else Qc) Qf]:fON Tryz.prog (envS [(131,hasPreS),(89,noS [AskT,.str] [AskT,.bool]),(90,noS [AskT,ReqT] [AskT,.bool])]) (shOf shaOfO) Tryz.f47 [ReqT] [AskT,.int .i64] N ((x0,x1,x2,x3,x4,()),())= (bif x1==oW then Qb else (bif x1==ooW then Qb else (bif x0==getW then Qf else (bif x0==headW then Qf else (bif x0==headW then Qd else Qd))))):=by obtain ⟨rfl⟩:=Qf';obtain ⟨rfl⟩:=Qd';obtain ⟨rfl⟩:=Qc';obtain ⟨rfl⟩:=Qb';obtain ⟨rfl⟩:=Qe';obtain ⟨rfl⟩:=Qa';kernel_rfl
theorem oaOfO_g (x:DenL [ReqT]):oaOfO x=fON Tryz.prog (envS [(131,hasPreS),(89,noS [AskT,.str] [AskT,.bool]),(90,noS [AskT,ReqT] [AskT,.bool])]) (shOf shaOfO) Tryz.f47 [ReqT] [AskT,.int .i64] heads0 x:=rfl
abbrev shrOfO:List (Nat×List (Nat×Sh)):=[]
def orOfO (x:DenL [ReqT]):Option (DenL [AskT,.int .i64]):=fO Tryz.prog (envS [(74,noS [.str] [.bool]),(75,noS [.str,.int .i64] [.int .i64,.bool]),(73,noS [.str,AskT] [AskT,.bool]),(76,noS [ReqT,AskT] [AskT,.int .i64])]) (shOf shrOfO) Tryz.f32 [ReqT] [AskT,.int .i64] x
theorem erOfO_g (N:Nat) (x0 x1 x2:L8) (x3:List (L8×L8×Unit)) (x4:L8) {Qf}[Qf':QA (↑x1.length:Int) Qf] {Qd}[Qd':QA (gd [decide ((3:Int)<=Qf)] (none)) Qd] {Qj}[Qj':QA (bif x0==headW then Qd else Qd) Qj] {Qa}[Qa':QA (bif !x4==[] then (bif !x0==putW then (some (zAsk,(400:Int),())) else Qj) else Qj) Qa] {Qe}[Qe':QA (bif !x4==[] then (bif !x0==putW then (some (zAsk,(400:Int),())) else (gd [x0==headW] (none))) else (gd [x0==headW] (none))) Qe] {Qh}[Qh':QA (some (zAsk,(405:Int),())) Qh] {Qb}[Qb':QA (bif x0==getW then Qe else (bif x0==headW then Qe else (bif !x0==putW then (bif !x0==delW then Qh else Qh) else Qh))) Qb] {Qg}[Qg':QA (some (zAsk,(404:Int),())) Qg] {Qi}[Qi':QA (gd [decide ((3:Int)<=Qf)] Qg) Qi] {Qc}[Qc':QA (bif decide (Qf<4) then Qg else (bif !List.take 3 x1==ooW then Qi else (gd [decide ((3:Int)<=Qf)] Qa))) Qc]:fON Tryz.prog (envS [(74,noS [.str] [.bool]),(75,noS [.str,.int .i64] [.int .i64,.bool]),(73,noS [.str,AskT] [AskT,.bool]),(76,noS [ReqT,AskT] [AskT,.int .i64])]) (shOf shrOfO) Tryz.f32 [ReqT] [AskT,.int .i64] N ((x0,x1,x2,x3,x4,()),())= (bif x1==oW then Qb else (bif x1==ooW then Qb else (bif x0==getW then Qc else (bif x0==headW then Qc else (bif decide (Qf<4) then Qg else (bif !List.take 3 x1==ooW then Qi else (gd [decide ((3:Int)<=Qf)] (bif !x0==putW then (bif !x0==delW then Qh else Qa) else Qa)))))))):=by obtain ⟨rfl⟩:=Qc';obtain ⟨rfl⟩:=Qi';obtain ⟨rfl⟩:=Qg';obtain ⟨rfl⟩:=Qb';obtain ⟨rfl⟩:=Qh';obtain ⟨rfl⟩:=Qe';obtain ⟨rfl⟩:=Qa';obtain ⟨rfl⟩:=Qj';obtain ⟨rfl⟩:=Qd';obtain ⟨rfl⟩:=Qf';kernel_rfl
theorem orOfO_g (x:DenL [ReqT]):orOfO x=fON Tryz.prog (envS [(74,noS [.str] [.bool]),(75,noS [.str,.int .i64] [.int .i64,.bool]),(73,noS [.str,AskT] [AskT,.bool]),(76,noS [ReqT,AskT] [AskT,.int .i64])]) (shOf shrOfO) Tryz.f32 [ReqT] [AskT,.int .i64] heads0 x:=rfl
open Go Go.Eng Nice
set_option maxRecDepth 1000000
abbrev shaconds:List (Nat×List (Nat×Sh)):=[]
def oaconds (x:DenL [ReqT]):Option (DenL [.int .i64,.str,.bool]):=fO Tryz.prog (envS [(84,valueS),(194,cutPreS),(265,cutSufT),(193,gReadS)]) (shOf shaconds) Tryz.f137 [ReqT] [.int .i64,.str,.bool] x
theorem eaconds_g (N:Nat) (x0 x1 x2:L8) (x3:List (L8×L8×Unit)) (x4:L8) {Qc}[Qc':QA (cutPre (valueN x3 imW).fst [34]) Qc] {Qa}[Qa':QA (cutSuf Qc.fst [34]) Qa] {Qb}[Qb':QA (some ((2:Int),Qa.fst,false,())) Qb] {Qd}[Qd':QA (bif Qa.snd then none else Qb) Qd] {Qe}[Qe':QA (bif Qc.snd then none else Qb) Qe]:fON Tryz.prog (envS [(84,valueS),(194,cutPreS),(265,cutSufT),(193,gReadS)]) (shOf shaconds) Tryz.f137 [ReqT] [.int .i64,.str,.bool] N ((x0,x1,x2,x3,x4,()),())= (bif (valueN x3 inmW).snd then (gd [valueP x3 inmW] (bif (valueN x3 imW).snd then (gd [valueP x3 imW] (some ((0:Int),[],false,()))) else (gd [valueP x3 imW] (bif (valueN x3 inmW).fst==[42] then (some ((1:Int),[],true,())) else (some ((1:Int),[],false,())))))) else (gd [valueP x3 inmW] (bif (valueN x3 imW).snd then (gd [bndS Qc.fst,valueP x3 imW] (bif (gRead Qa.fst).snd then (bif Qc.snd then (bif Qc.snd then (bif Qa.snd then (bif Qa.snd then (some ((2:Int),Qa.fst,true,())) else Qb) else Qd) else Qb) else Qe) else (bif Qc.snd then (bif Qc.snd then (bif Qa.snd then (bif Qa.snd then Qb else Qb) else Qd) else Qb) else Qe))) else (gd [valueP x3 imW] (some ((0:Int),[],true,())))))):=by obtain ⟨rfl⟩:=Qe';obtain ⟨rfl⟩:=Qd';obtain ⟨rfl⟩:=Qb';obtain ⟨rfl⟩:=Qa';obtain ⟨rfl⟩:=Qc';kernel_rfl
theorem oaconds_g (x:DenL [ReqT]):oaconds x=fON Tryz.prog (envS [(84,valueS),(194,cutPreS),(265,cutSufT),(193,gReadS)]) (shOf shaconds) Tryz.f137 [ReqT] [.int .i64,.str,.bool] heads0 x:=rfl
abbrev shrconds:List (Nat×List (Nat×Sh)):=[]
def orconds (x:DenL [ReqT,AskT]):Option (DenL [AskT,.int .i64]):=fO Tryz.prog (envS [(124,valueS),(87,rReadS)]) (shOf shrconds) Tryz.f76 [ReqT,AskT] [AskT,.int .i64] x
theorem erconds_g (N:Nat) (x0 x1 x2:L8) (x3:List (L8×L8×Unit)) (x4:L8) (x5:Ty.Den AskT) {Qc}[Qc':QA (valueN x3 imW) Qc] {Qa}[Qa':QA (↑Qc.fst.length:Int) Qa] {Qb}[Qb':QA (some (zAsk,(400:Int),())) Qb] {Qd}[Qd':QA (List.take (Qa-1).toNat Qc.fst) Qd]:fON Tryz.prog (envS [(124,valueS),(87,rReadS)]) (shOf shrconds) Tryz.f76 [ReqT,AskT] [AskT,.int .i64] N ((x0,x1,x2,x3,x4,()),x5,())= (bif (valueN x3 inmW).snd then (gd [valueP x3 inmW] (bif Qc.snd then (gd [valueP x3 imW] Qb) else (gd [valueP x3 imW] (bif !(valueN x3 inmW).fst==[42] then Qb else (some ((x5.fst,x5.snd.fst,x5.snd.snd.fst,x5.snd.snd.snd.fst,(1:Int),x5.snd.snd.snd.snd.snd),(0:Int),())))))) else (gd [valueP x3 inmW] (bif Qc.snd then (gd [valueP x3 imW] (bif Qa !=10 then Qb else (bif (↑(Qc.fst.getD 0 0).toNat:Int) !=34 then (gd [decide ((0:Int)<Qa)] Qb) else (bif (↑(Qc.fst.getD (Qa-1).toNat 0).toNat:Int) !=34 then (gd [decide ((0:Int)<=Qa-1),decide (Qa-1<Qa),decide (inK .i64 (Qa-1)),decide ((0:Int)<Qa)] Qb) else (gd [decide ((0:Int)<=Qa-1),decide (Qa-1<Qa),decide (inK .i64 (Qa-1)),decide ((0:Int)<Qa)] (bif (rRead (List.drop 1 Qd)).snd then (gd [decide ((1:Int)<=Qa-1),decide (Qa-1<=Qa),decide (inK .i64 (Qa-1)),decide ((1:Int)<=Qa-1),decide (Qa-1<=Qa),decide (inK .i64 (Qa-1))] (some ((x5.fst,x5.snd.fst,x5.snd.snd.fst,x5.snd.snd.snd.fst,(2:Int),List.drop 1 Qd,x5.snd.snd.snd.snd.snd.snd),(0:Int),()))) else (gd [decide ((1:Int)<=Qa-1),decide (Qa-1<=Qa),decide (inK .i64 (Qa-1))] Qb))))))) else (gd [valueP x3 imW] (some (x5,(0:Int),())))))):=by obtain ⟨rfl⟩:=Qd';obtain ⟨rfl⟩:=Qb';obtain ⟨rfl⟩:=Qa';obtain ⟨rfl⟩:=Qc';kernel_rfl
theorem orconds_g (x:DenL [ReqT,AskT]):orconds x=fON Tryz.prog (envS [(124,valueS),(87,rReadS)]) (shOf shrconds) Tryz.f76 [ReqT,AskT] [AskT,.int .i64] heads0 x:=rfl
abbrev shakeyed:List (Nat×List (Nat×Sh)):=[]
def oakeyed (x:DenL [AskT,ReqT]):Option (DenL [AskT,.bool]):=fO Tryz.prog (envS [(135,isKeyS),(136,numS),(137,condsS),(194,cutPreS)]) (shOf shakeyed) Tryz.f90 [AskT,ReqT] [AskT,.bool] x
theorem eakeyed_g (N:Nat) (x0:Ty.Den AskT) (x1 x2 x3:L8) (x4:List (L8×L8×Unit)) (x5:L8) {Qb}[Qb':QA (cutPre x3 vPre) Qb] {Qf}[Qf':QA (↑Qb.fst.length:Int) Qf] {Qa}[Qa':QA (numN Qb.fst Qf ((1:Int)) ((1099511627776:Int))) Qa] {Qg}[Qg':QA ((3:Int),x0.snd.fst,Qa.fst,x0.snd.snd.snd) Qg] {Qc}[Qc':QA (some (Qg,false,())) Qc] {Qh}[Qh':QA ((1:Int),x0.snd.fst,Qa.fst,x0.snd.snd.snd) Qh] {Qd}[Qd':QA (some (Qh,false,())) Qd] {Qe}[Qe':QA ((2:Int),x0.snd.fst,x0.snd.snd.fst,x5,(condsN x4).fst,(condsN x4).snd.fst,x0.snd.snd.snd.snd.snd.snd) Qe] {Qi}[Qi':QA (↑(Qb.fst.getD 0 0).toNat:Int) Qi] {Qj}[Qj':QA (bif Qb.snd then none else Qc) Qj] {Qk}[Qk':QA (bif Qb.snd then none else Qd) Qk]:fON Tryz.prog (envS [(135,isKeyS),(136,numS),(137,condsS),(194,cutPreS)]) (shOf shakeyed) Tryz.f90 [AskT,ReqT] [AskT,.bool] N (x0,(x1,x2,x3,x4,x5,()),())= (bif isKey x0.snd.fst then (gd [bndS x0.snd.fst] (bif x1==putW then (bif (condsN x4).snd.snd then (gd [condsP x4] (bif x3==[] then (some (Qe,true,())) else (some (Qe,false,())))) else (gd [condsP x4] (some (Qe,false,())))) else (bif x1==delW then (bif x3==[] then (some (((3:Int),x0.snd),true,())) else (bif Qa.snd then (gd [bndS Qb.fst] (bif Qb.snd then (bif Qb.snd then (bif Qi !=48 then (gd [decide ((0:Int)<Qf)] (some (Qg,true,()))) else (gd [decide ((0:Int)<Qf)] Qc)) else Qc) else Qj)) else (gd [bndS Qb.fst] (bif Qb.snd then (bif Qb.snd then Qc else Qc) else Qj)))) else (bif x3==[] then (some (((1:Int),x0.snd),true,())) else (bif Qa.snd then (gd [bndS Qb.fst] (bif Qb.snd then (bif Qb.snd then (bif Qi !=48 then (gd [decide ((0:Int)<Qf)] (some (Qh,true,()))) else (gd [decide ((0:Int)<Qf)] Qd)) else Qd) else Qk)) else (gd [bndS Qb.fst] (bif Qb.snd then (bif Qb.snd then Qd else Qd) else Qk))))))) else (gd [bndS x0.snd.fst] (some (x0,false,())))):=by obtain ⟨rfl⟩:=Qk';obtain ⟨rfl⟩:=Qj';obtain ⟨rfl⟩:=Qi';obtain ⟨rfl⟩:=Qe';obtain ⟨rfl⟩:=Qd';obtain ⟨rfl⟩:=Qh';obtain ⟨rfl⟩:=Qc';obtain ⟨rfl⟩:=Qg';obtain ⟨rfl⟩:=Qa';obtain ⟨rfl⟩:=Qf';obtain ⟨rfl⟩:=Qb';kernel_rfl
theorem oakeyed_g (x:DenL [AskT,ReqT]):oakeyed x=fON Tryz.prog (envS [(135,isKeyS),(136,numS),(137,condsS),(194,cutPreS)]) (shOf shakeyed) Tryz.f90 [AskT,ReqT] [AskT,.bool] heads0 x:=rfl
abbrev shhsuf:List (Nat×List (Nat×Sh)):=[]
def ohsuf (x:DenL [.str,.str]):Option (DenL [.bool]):=fO Tryz.prog (envS []) (shOf shhsuf) Tryz.f314 [.str,.str] [.bool] x
theorem ehsuf_g (N:Nat) (x0 x1:L8) {Qa}[Qa':QA (↑x0.length:Int) Qa] {Qb}[Qb':QA (↑x1.length:Int) Qb]:fON Tryz.prog (envS []) (shOf shhsuf) Tryz.f314 [.str,.str] [.bool] N (x0,x1,())= (bif decide (Qa>=Qb) then (bif List.drop (Qa-Qb).toNat x0==x1 then (gd [decide ((0:Int)<=Qa-Qb),decide (Qa-Qb<=Qa),decide (inK .i64 (Qa-Qb))] (some (true,()))) else (gd [decide ((0:Int)<=Qa-Qb),decide (Qa-Qb<=Qa),decide (inK .i64 (Qa-Qb))] (some (false,())))) else (some (false,()))):=by obtain ⟨rfl⟩:=Qb';obtain ⟨rfl⟩:=Qa';kernel_rfl
theorem ohsuf_g (x:DenL [.str,.str]):ohsuf x=fON Tryz.prog (envS []) (shOf shhsuf) Tryz.f314 [.str,.str] [.bool] heads0 x:=rfl
abbrev shcsuf:List (Nat×List (Nat×Sh)):=[]
def ocsuf (x:DenL [.str,.str]):Option (DenL [.str,.bool]):=fO Tryz.prog (envS [(314,hasSufT)]) (shOf shcsuf) Tryz.f265 [.str,.str] [.str,.bool] x
theorem ecsuf_g (N:Nat) (x0 x1:L8) {Qa}[Qa':QA (↑x0.length:Int) Qa] {Qb}[Qb':QA (↑x1.length:Int) Qb]:fON Tryz.prog (envS [(314,hasSufT)]) (shOf shcsuf) Tryz.f265 [.str,.str] [.str,.bool] N (x0,x1,())= (bif hasSuf x0 x1 then (gd [decide ((0:Int)<=Qa-Qb),decide (Qa-Qb<=Qa),decide (inK .i64 (Qa-Qb)),bndS x0] (some (List.take (Qa-Qb).toNat x0,true,()))) else (gd [bndS x0] (some (x0,false,())))):=by obtain ⟨rfl⟩:=Qb';obtain ⟨rfl⟩:=Qa';kernel_rfl
theorem ocsuf_g (x:DenL [.str,.str]):ocsuf x=fON Tryz.prog (envS [(314,hasSufT)]) (shOf shcsuf) Tryz.f265 [.str,.str] [.str,.bool] heads0 x:=rfl
abbrev shsidx:List (Nat×List (Nat×Sh)):=[(2,[(0,(.one (.dat .str))),(1,(.one .sym)),(4,(.one .sym)),(7,(.one .sym)),(8,(.one .sym))])]
def hsidx_0 (n:Nat) (t0:List (Ty.Den .str)) (t1:L8) (t4 t7 t8:Int):Option (DenL [.int .i64]):=rH Tryz.prog (envS []) (shOf shsidx) Tryz.f187 [.int .i64] n 0 [(0,dt 10),(1,sy (.string (bs t1))),(4,sy (.int .i64 t4)),(7,sy (.int .i64 t7)),(8,sy (.int .i64 t8))] [.dat .str t0]
def osidx (x:DenL [.slice .str,.str]):Option (DenL [.int .i64]):=fO Tryz.prog (envS []) (shOf shsidx) Tryz.f187 [.slice .str,.str] [.int .i64] x
theorem esidx_g (N:Nat) (x0:List (L8)) (x1:L8):fON Tryz.prog (envS []) (shOf shsidx) Tryz.f187 [.slice .str,.str] [.int .i64] N (x0,x1,())=
 (hsidx_0 N (x0) (x1) ((0:Int)) ((↑x0.length:Int)) ((0:Int))):=by kernel_rfl
theorem osidx_g (x:DenL [.slice .str,.str]):osidx x=fON Tryz.prog (envS []) (shOf shsidx) Tryz.f187 [.slice .str,.str] [.int .i64] heads0 x:=rfl
theorem esidx_0 (n:Nat) (t0:List (Ty.Den .str)) (t1:L8) (t4 t7 t8:Int):hsidx_0 (n+1) t0 t1 t4 t7 t8=
 (bif decide (t8<t7) then
  (bif t1==t0.getD t8.toNat Ty.str.dflt then
   (gd [decide (t8.toNat<t0.length),decide ((0:Int)<=t8),decide (t8<(↑t0.length:Int))] (some (t8,())))
  else
   (gd [decide (inK .i64 (t8+(1:Int))),decide (t8.toNat<t0.length),decide ((0:Int)<=t8),decide (t8<(↑t0.length:Int))] (hsidx_0 n (t0) (t1) (t4) (t7) (t8+(1:Int)))))
 else
  (some (Int.negSucc 0,()))):=by kernel_rfl
abbrev shshas:List (Nat×List (Nat×Sh)):=[]
def oshas (x:DenL [.slice .str,.str]):Option (DenL [.bool]):=fO Tryz.prog (envS [(187,idxSS)]) (shOf shshas) Tryz.f134 [.slice .str,.str] [.bool] x
theorem eshas_g (N:Nat) (x0:List (L8)) (x1:L8):fON Tryz.prog (envS [(187,idxSS)]) (shOf shshas) Tryz.f134 [.slice .str,.str] [.bool] N (x0,x1,())=
 (bif decide (idxS x0 x1>=(0:Int)) then
  (gd [decide (x0.length<=1000)] (some (true,())))
 else
  (gd [decide (x0.length<=1000)] (some (false,())))):=by kernel_rfl
theorem oshas_g (x:DenL [.slice .str,.str]):oshas x=fON Tryz.prog (envS [(187,idxSS)]) (shOf shshas) Tryz.f134 [.slice .str,.str] [.bool] heads0 x:=rfl
abbrev shlisted:List (Nat×List (Nat×Sh)):=[(6,[(2,(.obj [.sym,.sym,.sym,.sym,.sym,.sym,.sym,.sym,.sym,.sym])),(4,(.obj [.sym,.sym,.sym,.sym,.sym,.sym,.sym,.sym,.sym,.sym])),(5,(.one .sym)),(6,(.one (.vec .str 9))),(21,(.one (.dat .str))),(22,(.one .sym)),(23,(.one .sym))])]
def hlisted_0 (n:Nat) (t2_0:Int) (t2_1:L8) (t2_2:Int) (t2_3:L8) (t2_4:Int) (t2_5 t2_6 t2_7:L8) (t2_8:Int) (t2_9:Bool) (t4_0:Int) (t4_1:L8) (t4_2:Int) (t4_3:L8) (t4_4:Int) (t4_5 t4_6 t4_7:L8) (t4_8:Int) (t4_9 t5:Bool) (t6:List (Ty.Den .str)) (t21:List (Ty.Den .str)) (t22 t23:Int):Option (DenL [AskT,.bool]):=rH Tryz.prog (envS [(135,isKeyS),(132,splitS),(133,cutES),(134,hasSS),(136,numS)]) (shOf shlisted) Tryz.f89 [AskT,.bool] n 0 [(2,.pointer (some ⟨10,0,none⟩)),(4,.pointer (some ⟨11,0,none⟩)),(5,.bool t5),(6,dt 12),(21,dt 13),(22,sy (.int .i64 t22)),(23,sy (.int .i64 t23))] [.row [sy (.int .i64 t2_0),sy (.string (bs t2_1)),sy (.int .i64 t2_2),sy (.string (bs t2_3)),sy (.int .i64 t2_4),sy (.string (bs t2_5)),sy (.string (bs t2_6)),sy (.string (bs t2_7)),sy (.int .i64 t2_8),.bool t2_9] 28 false,.row [sy (.int .i64 t4_0),sy (.string (bs t4_1)),sy (.int .i64 t4_2),sy (.string (bs t4_3)),sy (.int .i64 t4_4),sy (.string (bs t4_5)),sy (.string (bs t4_6)),sy (.string (bs t4_7)),sy (.int .i64 t4_8),.bool t4_9] 28 false,.vec .str t6 9,.dat .str t21]
def olisted (x:DenL [AskT,.str]):Option (DenL [AskT,.bool]):=fO Tryz.prog (envS [(135,isKeyS),(132,splitS),(133,cutES),(134,hasSS),(136,numS)]) (shOf shlisted) Tryz.f89 [AskT,.str] [AskT,.bool] x
theorem elisted_g (N:Nat) (x0:Ty.Den AskT) (x1:L8):fON Tryz.prog (envS [(135,isKeyS),(132,splitS),(133,cutES),(134,hasSS),(136,numS)]) (shOf shlisted) Tryz.f89 [AskT,.str] [AskT,.bool] N (x0,x1,())=
 (bif x1==[] then
  (some (((4:Int),x0.snd.fst,x0.snd.snd.fst,x0.snd.snd.snd.fst,x0.snd.snd.snd.snd.fst,x0.snd.snd.snd.snd.snd.fst,x0.snd.snd.snd.snd.snd.snd.fst,x0.snd.snd.snd.snd.snd.snd.snd.fst,(20:Int),x0.snd.snd.snd.snd.snd.snd.snd.snd.snd.fst,()),true,()))
 else
  (gd [shortS x1&&[38]==[38]] (hlisted_0 N ((4:Int)) (x0.snd.fst) (x0.snd.snd.fst) (x0.snd.snd.snd.fst) (x0.snd.snd.snd.snd.fst) (x0.snd.snd.snd.snd.snd.fst) (x0.snd.snd.snd.snd.snd.snd.fst) (x0.snd.snd.snd.snd.snd.snd.snd.fst) ((20:Int)) (x0.snd.snd.snd.snd.snd.snd.snd.snd.snd.fst) ((0:Int)) ([]) ((0:Int)) ([]) ((0:Int)) ([]) ([]) ([]) ((0:Int)) (false) (false) ([]) (splitN x1) ((↑(splitN x1).length:Int)) ((0:Int))))):=by kernel_rfl
theorem olisted_g (x:DenL [AskT,.str]):olisted x=fON Tryz.prog (envS [(135,isKeyS),(132,splitS),(133,cutES),(134,hasSS),(136,numS)]) (shOf shlisted) Tryz.f89 [AskT,.str] [AskT,.bool] heads0 x:=rfl
theorem elisted_0 (n:Nat) (t2_0:Int) (t2_1:L8) (t2_2:Int) (t2_3:L8) (t2_4:Int) (t2_5 t2_6 t2_7:L8) (t2_8:Int) (t2_9:Bool) (t4_0:Int) (t4_1:L8) (t4_2:Int) (t4_3:L8) (t4_4:Int) (t4_5 t4_6 t4_7:L8) (t4_8:Int) (t4_9 t5:Bool) (t6:List (Ty.Den .str)) (t21:List (Ty.Den .str)) (t22 t23:Int) {Qg}[Qg':QA (t21.getD t23.toNat Ty.str.dflt) Qg] {Qb}[Qb':QA (cutE Qg) Qb] {Qe}[Qe':QA (numN Qb.snd.fst ((2:Int)) ((1:Int)) ((20:Int))) Qe] {Qf}[Qf':QA (hlisted_0 n t2_0 t2_1 t2_2 t2_3 t2_4 t2_5) Qf] {Qd}[Qd':QA (t2_0,t2_1,t2_2,t2_3,t2_4,t2_5,t2_6,t2_7,t2_8,t2_9,()) Qd] {Qh}[Qh':QA (some (Qd,false,())) Qh] {Qi}[Qi':QA (t6++[Qb.fst]) Qi] {Qa}[Qa':QA (bif Qb.fst==wMax then (bif Qe.snd then (gd [decide (inK .i64 (t23+1)),bndS Qb.snd.fst] (Qf t2_6 t2_7 (Qe.fst) t2_9 t4_0 t4_1 t4_2 t4_3 t4_4 t4_5 t4_6 t4_7 t4_8 t4_9 t5 Qi t21 t22 (t23+1))) else (gd [bndS Qb.snd.fst] (some ((t2_0,t2_1,t2_2,t2_3,t2_4,t2_5,t2_6,t2_7,Qe.fst,t2_9,()),false,())))) else (bif Qb.fst==wVer then (bif Qb.snd.fst==[49] then (gd [decide (inK .i64 (t23+1))] (hlisted_0 n ((5:Int)) t2_1 t2_2 t2_3 t2_4 t2_5 t2_6 t2_7 t2_8 t2_9 t4_0 t4_1 t4_2 t4_3 t4_4 t4_5 t4_6 t4_7 t4_8 t4_9 t5 Qi t21 t22 (t23+1))) else (some (((5:Int),t2_1,t2_2,t2_3,t2_4,t2_5,t2_6,t2_7,t2_8,t2_9,()),false,()))) else Qh)) Qa] {Qc}[Qc':QA (bif Qb.fst==wPre then (gd [decide (inK .i64 (t23+1))] (Qf (Qb.snd.fst) t2_7 t2_8 t2_9 t4_0 t4_1 t4_2 t4_3 t4_4 t4_5 t4_6 t4_7 t4_8 t4_9 t5 Qi t21 t22 (t23+1))) else (bif Qb.fst==wAft then (gd [decide (inK .i64 (t23+1))] (Qf t2_6 (Qb.snd.fst) t2_8 t2_9 t4_0 t4_1 t4_2 t4_3 t4_4 t4_5 t4_6 t4_7 t4_8 t4_9 t5 Qi t21 t22 (t23+1))) else Qa)) Qc]:hlisted_0 (n+1) t2_0 t2_1 t2_2 t2_3 t2_4 t2_5 t2_6 t2_7 t2_8 t2_9 t4_0 t4_1 t4_2 t4_3 t4_4 t4_5 t4_6 t4_7 t4_8 t4_9 t5 t6 t21 t22 t23= (bif decide (t23<t22) then (gd [decide (t23.toNat<t21.length),decide (0<=t23),decide (t23<t21.length)] (bif Qb.snd.snd then (gd [shortS Qg&&[61]==[61]] (bif hasS t6 Qb.fst then (gd [decide (t6.length<=1000)] Qh) else (gd [decide ((2*(t6.length+[Qb.fst].length)+400)*16<=281474976710656),decide (t6.length<=1000)] (bif Qb.snd.fst==[] then Qc else (bif isKey Qb.snd.fst then (gd [bndS Qb.snd.fst] Qc) else (gd [bndS Qb.snd.fst] (bif Qb.fst==wPre then (some ((t2_0,t2_1,t2_2,t2_3,t2_4,t2_5,Qb.snd.fst,t2_7,t2_8,t2_9,()),false,())) else (bif Qb.fst==wAft then (some ((t2_0,t2_1,t2_2,t2_3,t2_4,t2_5,t2_6,Qb.snd.fst,t2_8,t2_9,()),false,())) else Qa)))))))) else (gd [shortS Qg&&[61]==[61]] Qh))) else (some (Qd,true,()))):=by obtain ⟨rfl⟩:=Qc';obtain ⟨rfl⟩:=Qa';obtain ⟨rfl⟩:=Qi';obtain ⟨rfl⟩:=Qh';obtain ⟨rfl⟩:=Qd';obtain ⟨rfl⟩:=Qf';obtain ⟨rfl⟩:=Qe';obtain ⟨rfl⟩:=Qb';obtain ⟨rfl⟩:=Qg';kernel_rfl
open Go Go.Eng Nice
set_option maxRecDepth 1000000
abbrev shrkeyB:List (Nat×List (Nat×Sh)):=[]
def orkeyB (x:DenL [.str]):Option (DenL [.bool]):=fO Tryz.prog (envS [(74,isKeyS)]) (shOf shrkeyB) Tryz.f122 [.str] [.bool] x
theorem erkeyB_g (N:Nat) (x0:L8):fON Tryz.prog (envS [(74,isKeyS)]) (shOf shrkeyB) Tryz.f122 [.str] [.bool] N (x0,())=
 (bif x0==[] then
  (some (true,()))
 else
  (bif isKey x0 then
   (gd [bndS x0] (some (true,())))
  else
   (gd [bndS x0] (some (false,()))))):=by kernel_rfl
theorem orkeyB_g (x:DenL [.str]):orkeyB x=fON Tryz.prog (envS [(74,isKeyS)]) (shOf shrkeyB) Tryz.f122 [.str] [.bool] heads0 x:=rfl
abbrev shrparts:List (Nat×List (Nat×Sh)):=[(4,[(0,(.one .sym)),(3,(.obj [.sym,.sym,.sym,.sym,.sym,.sym,.sym,.sym,.sym,.sym])),(4,(.obj [.sym,.sym,.sym,.sym,.sym,.sym,.sym,.sym,.sym,.sym])),(5,(.one .sym)),(6,(.obj [.sym,.sym,.sym,.sym]))]),(5,[(0,(.one .sym)),(3,(.obj [.sym,.sym,.sym,.sym,.sym,.sym,.sym,.sym,.sym,.sym])),(4,(.obj [.sym,.sym,.sym,.sym,.sym,.sym,.sym,.sym,.sym,.sym])),(5,(.one .sym)),(6,(.obj [.sym,.sym,.sym,.sym])),(7,(.one .sym))]),(11,[(0,(.one .sym)),(3,(.obj [.sym,.sym,.sym,.sym,.sym,.sym,.sym,.sym,.sym,.sym])),(4,(.obj [.sym,.sym,.sym,.sym,.sym,.sym,.sym,.sym,.sym,.sym])),(5,(.one .sym)),(6,(.obj [.sym,.sym,.sym,.sym])),(7,(.one .sym)),(8,(.one .sym)),(9,(.sli [.sym,.sym,.sym,.sym])),(10,(.one .sym)),(11,(.one .sym))])]
def hrparts_0 (n:Nat) (t0:L8) (t3_0:Int) (t3_1:L8) (t3_2:Int) (t3_3:L8) (t3_4:Int) (t3_5 t3_6 t3_7:L8) (t3_8:Int) (t3_9:Bool) (t4_0:Int) (t4_1:L8) (t4_2:Int) (t4_3:L8) (t4_4:Int) (t4_5 t4_6 t4_7:L8) (t4_8:Int) (t4_9 t5 t6_0 t6_1 t6_2 t6_3:Bool):Option (DenL [AskT,.bool]):=rH Tryz.prog (envS [(75,refNumS),(122,keyBS)]) (shOf shrparts) Tryz.f73 [AskT,.bool] n 0 [(0,sy (.string (bs t0))),(3,.pointer (some ⟨10,0,none⟩)),(4,.pointer (some ⟨11,0,none⟩)),(5,.bool t5),(6,.pointer (some ⟨12,0,none⟩))] [.row [sy (.int .i64 t3_0),sy (.string (bs t3_1)),sy (.int .i64 t3_2),sy (.string (bs t3_3)),sy (.int .i64 t3_4),sy (.string (bs t3_5)),sy (.string (bs t3_6)),sy (.string (bs t3_7)),sy (.int .i64 t3_8),.bool t3_9] 28 false,.row [sy (.int .i64 t4_0),sy (.string (bs t4_1)),sy (.int .i64 t4_2),sy (.string (bs t4_3)),sy (.int .i64 t4_4),sy (.string (bs t4_5)),sy (.string (bs t4_6)),sy (.string (bs t4_7)),sy (.int .i64 t4_8),.bool t4_9] 28 false,.row [.bool t6_0,.bool t6_1,.bool t6_2,.bool t6_3] 167 false]
def hrparts_1 (n:Nat) (t0:L8) (t3_0:Int) (t3_1:L8) (t3_2:Int) (t3_3:L8) (t3_4:Int) (t3_5 t3_6 t3_7:L8) (t3_8:Int) (t3_9:Bool) (t4_0:Int) (t4_1:L8) (t4_2:Int) (t4_3:L8) (t4_4:Int) (t4_5 t4_6 t4_7:L8) (t4_8:Int) (t4_9 t5 t6_0 t6_1 t6_2 t6_3:Bool) (t7:Int):Option (DenL [AskT,.bool]):=rH Tryz.prog (envS [(75,refNumS),(122,keyBS)]) (shOf shrparts) Tryz.f73 [AskT,.bool] n 1 [(0,sy (.string (bs t0))),(3,.pointer (some ⟨10,0,none⟩)),(4,.pointer (some ⟨11,0,none⟩)),(5,.bool t5),(6,.pointer (some ⟨12,0,none⟩)),(7,sy (.int .i64 t7))] [.row [sy (.int .i64 t3_0),sy (.string (bs t3_1)),sy (.int .i64 t3_2),sy (.string (bs t3_3)),sy (.int .i64 t3_4),sy (.string (bs t3_5)),sy (.string (bs t3_6)),sy (.string (bs t3_7)),sy (.int .i64 t3_8),.bool t3_9] 28 false,.row [sy (.int .i64 t4_0),sy (.string (bs t4_1)),sy (.int .i64 t4_2),sy (.string (bs t4_3)),sy (.int .i64 t4_4),sy (.string (bs t4_5)),sy (.string (bs t4_6)),sy (.string (bs t4_7)),sy (.int .i64 t4_8),.bool t4_9] 28 false,.row [.bool t6_0,.bool t6_1,.bool t6_2,.bool t6_3] 167 false]
def hrparts_2 (n:Nat) (t0:L8) (t3_0:Int) (t3_1:L8) (t3_2:Int) (t3_3:L8) (t3_4:Int) (t3_5 t3_6 t3_7:L8) (t3_8:Int) (t3_9:Bool) (t4_0:Int) (t4_1:L8) (t4_2:Int) (t4_3:L8) (t4_4:Int) (t4_5 t4_6 t4_7:L8) (t4_8:Int) (t4_9 t5 t6_0 t6_1 t6_2 t6_3:Bool) (t7:Int) (t8 t9_0 t9_1 t9_2 t9_3:L8) (t10 t11:Int):Option (DenL [AskT,.bool]):=rH Tryz.prog (envS [(75,refNumS),(122,keyBS)]) (shOf shrparts) Tryz.f73 [AskT,.bool] n 2 [(0,sy (.string (bs t0))),(3,.pointer (some ⟨10,0,none⟩)),(4,.pointer (some ⟨11,0,none⟩)),(5,.bool t5),(6,.pointer (some ⟨12,0,none⟩)),(7,sy (.int .i64 t7)),(8,sy (.string (bs t8))),(9,.slice (some ⟨13,0,none⟩) 4 4),(10,sy (.int .i64 t10)),(11,sy (.int .i64 t11))] [.row [sy (.int .i64 t3_0),sy (.string (bs t3_1)),sy (.int .i64 t3_2),sy (.string (bs t3_3)),sy (.int .i64 t3_4),sy (.string (bs t3_5)),sy (.string (bs t3_6)),sy (.string (bs t3_7)),sy (.int .i64 t3_8),.bool t3_9] 28 false,.row [sy (.int .i64 t4_0),sy (.string (bs t4_1)),sy (.int .i64 t4_2),sy (.string (bs t4_3)),sy (.int .i64 t4_4),sy (.string (bs t4_5)),sy (.string (bs t4_6)),sy (.string (bs t4_7)),sy (.int .i64 t4_8),.bool t4_9] 28 false,.row [.bool t6_0,.bool t6_1,.bool t6_2,.bool t6_3] 167 false,.row [sy (.string (bs t9_0)),sy (.string (bs t9_1)),sy (.string (bs t9_2)),sy (.string (bs t9_3))] 9 false]
def orparts (x:DenL [.str,AskT]):Option (DenL [AskT,.bool]):=fO Tryz.prog (envS [(75,refNumS),(122,keyBS)]) (shOf shrparts) Tryz.f73 [.str,AskT] [AskT,.bool] x
theorem erparts_g (N:Nat) (x0:L8) (x1:Ty.Den AskT):fON Tryz.prog (envS [(75,refNumS),(122,keyBS)]) (shOf shrparts) Tryz.f73 [.str,AskT] [AskT,.bool] N (x0,x1,())=
 (bif x0==[] then
  (some (x1,true,()))
 else
  (hrparts_0 N (x0) (x1.fst) (x1.snd.fst) (x1.snd.snd.fst) (x1.snd.snd.snd.fst) (x1.snd.snd.snd.snd.fst) (x1.snd.snd.snd.snd.snd.fst) (x1.snd.snd.snd.snd.snd.snd.fst) (x1.snd.snd.snd.snd.snd.snd.snd.fst) (x1.snd.snd.snd.snd.snd.snd.snd.snd.fst) (x1.snd.snd.snd.snd.snd.snd.snd.snd.snd.fst) ((0:Int)) ([]) ((0:Int)) ([]) ((0:Int)) ([]) ([]) ([]) ((0:Int)) (false) (false) (false) (false) (false) (false))):=by kernel_rfl
theorem orparts_g (x:DenL [.str,AskT]):orparts x=fON Tryz.prog (envS [(75,refNumS),(122,keyBS)]) (shOf shrparts) Tryz.f73 [.str,AskT] [AskT,.bool] heads0 x:=rfl
theorem erparts_2_0 (n:Nat) (t0:L8) (t3_0:Int) (t3_1:L8) (t3_2:Int) (t3_3:L8) (t3_4:Int) (t3_5 t3_6 t3_7:L8) (t3_8:Int) (t3_9:Bool) (t4_0:Int) (t4_1:L8) (t4_2:Int) (t4_3:L8) (t4_4:Int) (t4_5 t4_6 t4_7:L8) (t4_8:Int) (t4_9 t5 t6_0 t6_1 t6_2 t6_3:Bool) (t7:Int) (t8:L8) (t10:Int) {Qa}[Qa':QA (hrparts_2 n t0 t3_0 t3_1 t3_2 t3_3 t3_4 t3_5 t3_6 t3_7 t3_8 t3_9 t4_0 t4_1 t4_2 t4_3 t4_4 t4_5 t4_6 t4_7 t4_8 t4_9 t5 t6_0 t6_1 t6_2 t6_3 t7 t8 ePre eAft eMax eVer) Qa] {Qb}[Qb':QA (↑t8.length:Int) Qb]:hrparts_2 (n+1) t0 t3_0 t3_1 t3_2 t3_3 t3_4 t3_5 t3_6 t3_7 t3_8 t3_9 t4_0 t4_1 t4_2 t4_3 t4_4 t4_5 t4_6 t4_7 t4_8 t4_9 t5 t6_0 t6_1 t6_2 t6_3 t7 t8 (ePre) (eAft) (eMax) (eVer) t10 ((0:Int))= (bif decide (Qb>=7) then (bif List.take 7 t8==ePre then (gd [decide (inK .i64 ((0:Int)+1)),decide ((7:Int)<=Qb)] (Qa ((0:Int)) ((1:Int)))) else (gd [decide (inK .i64 ((0:Int)+1)),decide ((7:Int)<=Qb)] (Qa t10 ((1:Int))))) else (gd [decide (inK .i64 ((0:Int)+1))] (Qa t10 ((1:Int))))):=by obtain ⟨rfl⟩:=Qb';obtain ⟨rfl⟩:=Qa';kernel_rfl
theorem erparts_2_1 (n:Nat) (t0:L8) (t3_0:Int) (t3_1:L8) (t3_2:Int) (t3_3:L8) (t3_4:Int) (t3_5 t3_6 t3_7:L8) (t3_8:Int) (t3_9:Bool) (t4_0:Int) (t4_1:L8) (t4_2:Int) (t4_3:L8) (t4_4:Int) (t4_5 t4_6 t4_7:L8) (t4_8:Int) (t4_9 t5 t6_0 t6_1 t6_2 t6_3:Bool) (t7:Int) (t8:L8) (t10:Int) {Qa}[Qa':QA (hrparts_2 n t0 t3_0 t3_1 t3_2 t3_3 t3_4 t3_5 t3_6 t3_7 t3_8 t3_9 t4_0 t4_1 t4_2 t4_3 t4_4 t4_5 t4_6 t4_7 t4_8 t4_9 t5 t6_0 t6_1 t6_2 t6_3 t7 t8 ePre eAft eMax eVer) Qa] {Qb}[Qb':QA (↑t8.length:Int) Qb]:hrparts_2 (n+1) t0 t3_0 t3_1 t3_2 t3_3 t3_4 t3_5 t3_6 t3_7 t3_8 t3_9 t4_0 t4_1 t4_2 t4_3 t4_4 t4_5 t4_6 t4_7 t4_8 t4_9 t5 t6_0 t6_1 t6_2 t6_3 t7 t8 (ePre) (eAft) (eMax) (eVer) t10 ((1:Int))= (bif decide (Qb>=6) then (bif List.take 6 t8==eAft then (gd [decide (inK .i64 ((1:Int)+1)),decide ((6:Int)<=Qb)] (Qa ((1:Int)) ((2:Int)))) else (gd [decide (inK .i64 ((1:Int)+1)),decide ((6:Int)<=Qb)] (Qa t10 ((2:Int))))) else (gd [decide (inK .i64 ((1:Int)+1))] (Qa t10 ((2:Int))))):=by obtain ⟨rfl⟩:=Qb';obtain ⟨rfl⟩:=Qa';kernel_rfl
theorem erparts_2_2 (n:Nat) (t0:L8) (t3_0:Int) (t3_1:L8) (t3_2:Int) (t3_3:L8) (t3_4:Int) (t3_5 t3_6 t3_7:L8) (t3_8:Int) (t3_9:Bool) (t4_0:Int) (t4_1:L8) (t4_2:Int) (t4_3:L8) (t4_4:Int) (t4_5 t4_6 t4_7:L8) (t4_8:Int) (t4_9 t5 t6_0 t6_1 t6_2 t6_3:Bool) (t7:Int) (t8:L8) (t10:Int) {Qa}[Qa':QA (hrparts_2 n t0 t3_0 t3_1 t3_2 t3_3 t3_4 t3_5 t3_6 t3_7 t3_8 t3_9 t4_0 t4_1 t4_2 t4_3 t4_4 t4_5 t4_6 t4_7 t4_8 t4_9 t5 t6_0 t6_1 t6_2 t6_3 t7 t8 ePre eAft eMax eVer) Qa] {Qb}[Qb':QA (↑t8.length:Int) Qb]:hrparts_2 (n+1) t0 t3_0 t3_1 t3_2 t3_3 t3_4 t3_5 t3_6 t3_7 t3_8 t3_9 t4_0 t4_1 t4_2 t4_3 t4_4 t4_5 t4_6 t4_7 t4_8 t4_9 t5 t6_0 t6_1 t6_2 t6_3 t7 t8 (ePre) (eAft) (eMax) (eVer) t10 ((2:Int))= (bif decide (Qb>=4) then (bif List.take 4 t8==eMax then (gd [decide (inK .i64 ((2:Int)+1)),decide ((4:Int)<=Qb)] (Qa ((2:Int)) ((3:Int)))) else (gd [decide (inK .i64 ((2:Int)+1)),decide ((4:Int)<=Qb)] (Qa t10 ((3:Int))))) else (gd [decide (inK .i64 ((2:Int)+1))] (Qa t10 ((3:Int))))):=by obtain ⟨rfl⟩:=Qb';obtain ⟨rfl⟩:=Qa';kernel_rfl
theorem erparts_2_3 (n:Nat) (t0:L8) (t3_0:Int) (t3_1:L8) (t3_2:Int) (t3_3:L8) (t3_4:Int) (t3_5 t3_6 t3_7:L8) (t3_8:Int) (t3_9:Bool) (t4_0:Int) (t4_1:L8) (t4_2:Int) (t4_3:L8) (t4_4:Int) (t4_5 t4_6 t4_7:L8) (t4_8:Int) (t4_9 t5 t6_0 t6_1 t6_2 t6_3:Bool) (t7:Int) (t8:L8) (t10:Int) {Qa}[Qa':QA (hrparts_2 n t0 t3_0 t3_1 t3_2 t3_3 t3_4 t3_5 t3_6 t3_7 t3_8 t3_9 t4_0 t4_1 t4_2 t4_3 t4_4 t4_5 t4_6 t4_7 t4_8 t4_9 t5 t6_0 t6_1 t6_2 t6_3 t7 t8 ePre eAft eMax eVer) Qa] {Qb}[Qb':QA (↑t8.length:Int) Qb]:hrparts_2 (n+1) t0 t3_0 t3_1 t3_2 t3_3 t3_4 t3_5 t3_6 t3_7 t3_8 t3_9 t4_0 t4_1 t4_2 t4_3 t4_4 t4_5 t4_6 t4_7 t4_8 t4_9 t5 t6_0 t6_1 t6_2 t6_3 t7 t8 (ePre) (eAft) (eMax) (eVer) t10 ((3:Int))= (bif decide (Qb>=9) then (bif List.take 9 t8==eVer then (gd [decide (inK .i64 ((3:Int)+1)),decide ((9:Int)<=Qb)] (Qa ((3:Int)) ((4:Int)))) else (gd [decide (inK .i64 ((3:Int)+1)),decide ((9:Int)<=Qb)] (Qa t10 ((4:Int))))) else (gd [decide (inK .i64 ((3:Int)+1))] (Qa t10 ((4:Int))))):=by obtain ⟨rfl⟩:=Qb';obtain ⟨rfl⟩:=Qa';kernel_rfl
theorem erparts_2_4 (n:Nat) (t0:L8) (t3_0:Int) (t3_1:L8) (t3_2:Int) (t3_3:L8) (t3_4:Int) (t3_5 t3_6 t3_7:L8) (t3_8:Int) (t3_9:Bool) (t4_0:Int) (t4_1:L8) (t4_2:Int) (t4_3:L8) (t4_4:Int) (t4_5 t4_6 t4_7:L8) (t4_8:Int) (t4_9 t5 t6_0 t6_1 t6_2 t6_3:Bool) (t7:Int) (t8:L8):hrparts_2 (n+1) t0 t3_0 t3_1 t3_2 t3_3 t3_4 t3_5 t3_6 t3_7 t3_8 t3_9 t4_0 t4_1 t4_2 t4_3 t4_4 t4_5 t4_6 t4_7 t4_8 t4_9 t5 t6_0 t6_1 t6_2 t6_3 t7 t8 (ePre) (eAft) (eMax) (eVer) ((-1:Int)) ((4:Int))=
 (some ((t3_0,t3_1,t3_2,t3_3,t3_4,t3_5,t3_6,t3_7,t3_8,t3_9,()),false,())):=by kernel_rfl
theorem erparts_2_5 (n:Nat) (t0:L8) (t3_0:Int) (t3_1:L8) (t3_2:Int) (t3_3:L8) (t3_4:Int) (t3_5 t3_6 t3_7:L8) (t3_8:Int) (t3_9:Bool) (t4_0:Int) (t4_1:L8) (t4_2:Int) (t4_3:L8) (t4_4:Int) (t4_5 t4_6 t4_7:L8) (t4_8:Int) (t4_9 t5 t6_0 t6_1 t6_2 t6_3:Bool) (t7:Int) (t8:L8) {Qa}[Qa':QA (t3_0,t3_1,t3_2,t3_3,t3_4,t3_5,List.drop 7 t8,t3_7,t3_8,t3_9,()) Qa] {Qb}[Qb':QA (List.drop 7 t8) Qb]:hrparts_2 (n+1) t0 t3_0 t3_1 t3_2 t3_3 t3_4 t3_5 t3_6 t3_7 t3_8 t3_9 t4_0 t4_1 t4_2 t4_3 t4_4 t4_5 t4_6 t4_7 t4_8 t4_9 t5 t6_0 t6_1 t6_2 t6_3 t7 t8 (ePre) (eAft) (eMax) (eVer) ((0:Int)) ((4:Int))= (bif t6_0 then (some ((t3_0,t3_1,t3_2,t3_3,t3_4,t3_5,t3_6,t3_7,t3_8,t3_9,()),false,())) else (gd [decide ((7:Int)<=(↑t8.length:Int))] (bif keyB Qb then (gd [bndS Qb] (bif t7==(↑t0.length:Int) then (some (Qa,true,())) else (gd [decide (0<=t7+1),decide (t7+1<=t0.length),decide (inK .i64 (t7+1))] (hrparts_0 n (List.drop (t7+1).toNat t0) t3_0 t3_1 t3_2 t3_3 t3_4 t3_5 Qb t3_7 t3_8 t3_9 t4_0 t4_1 t4_2 t4_3 t4_4 t4_5 t4_6 t4_7 t4_8 t4_9 t5 true t6_1 t6_2 t6_3)))) else (gd [bndS Qb] (some (Qa,false,())))))):=by obtain ⟨rfl⟩:=Qb';obtain ⟨rfl⟩:=Qa';kernel_rfl
theorem erparts_2_6 (n:Nat) (t0:L8) (t3_0:Int) (t3_1:L8) (t3_2:Int) (t3_3:L8) (t3_4:Int) (t3_5 t3_6 t3_7:L8) (t3_8:Int) (t3_9:Bool) (t4_0:Int) (t4_1:L8) (t4_2:Int) (t4_3:L8) (t4_4:Int) (t4_5 t4_6 t4_7:L8) (t4_8:Int) (t4_9 t5 t6_0 t6_1 t6_2 t6_3:Bool) (t7:Int) (t8:L8) {Qa}[Qa':QA (t3_0,t3_1,t3_2,t3_3,t3_4,t3_5,t3_6,List.drop 6 t8,t3_8,t3_9,()) Qa] {Qb}[Qb':QA (List.drop 6 t8) Qb]:hrparts_2 (n+1) t0 t3_0 t3_1 t3_2 t3_3 t3_4 t3_5 t3_6 t3_7 t3_8 t3_9 t4_0 t4_1 t4_2 t4_3 t4_4 t4_5 t4_6 t4_7 t4_8 t4_9 t5 t6_0 t6_1 t6_2 t6_3 t7 t8 (ePre) (eAft) (eMax) (eVer) ((1:Int)) ((4:Int))= (bif t6_1 then (some ((t3_0,t3_1,t3_2,t3_3,t3_4,t3_5,t3_6,t3_7,t3_8,t3_9,()),false,())) else (gd [decide ((6:Int)<=(↑t8.length:Int))] (bif keyB Qb then (gd [bndS Qb] (bif t7==(↑t0.length:Int) then (some (Qa,true,())) else (gd [decide (0<=t7+1),decide (t7+1<=t0.length),decide (inK .i64 (t7+1))] (hrparts_0 n (List.drop (t7+1).toNat t0) t3_0 t3_1 t3_2 t3_3 t3_4 t3_5 t3_6 Qb t3_8 t3_9 t4_0 t4_1 t4_2 t4_3 t4_4 t4_5 t4_6 t4_7 t4_8 t4_9 t5 t6_0 true t6_2 t6_3)))) else (gd [bndS Qb] (some (Qa,false,())))))):=by obtain ⟨rfl⟩:=Qb';obtain ⟨rfl⟩:=Qa';kernel_rfl
theorem erparts_2_7 (n:Nat) (t0:L8) (t3_0:Int) (t3_1:L8) (t3_2:Int) (t3_3:L8) (t3_4:Int) (t3_5 t3_6 t3_7:L8) (t3_8:Int) (t3_9:Bool) (t4_0:Int) (t4_1:L8) (t4_2:Int) (t4_3:L8) (t4_4:Int) (t4_5 t4_6 t4_7:L8) (t4_8:Int) (t4_9 t5 t6_0 t6_1 t6_2 t6_3:Bool) (t7:Int) (t8:L8) {Qa}[Qa':QA (some ((t3_0,t3_1,t3_2,t3_3,t3_4,t3_5,t3_6,t3_7,t3_8,t3_9,()),false,())) Qa] {Qc}[Qc':QA (List.drop 4 t8) Qc] {Qb}[Qb':QA (refNum Qc ((2:Int))) Qb]:hrparts_2 (n+1) t0 t3_0 t3_1 t3_2 t3_3 t3_4 t3_5 t3_6 t3_7 t3_8 t3_9 t4_0 t4_1 t4_2 t4_3 t4_4 t4_5 t4_6 t4_7 t4_8 t4_9 t5 t6_0 t6_1 t6_2 t6_3 t7 t8 (ePre) (eAft) (eMax) (eVer) ((2:Int)) ((4:Int))= (bif t6_2 then Qa else (gd [decide ((4:Int)<=(↑t8.length:Int))] (bif Qb.snd then (gd [refNumP Qc ((2:Int))] (bif decide (Qb.fst<1) then Qa else (bif decide (Qb.fst>20) then Qa else (bif t7==(↑t0.length:Int) then (some ((t3_0,t3_1,t3_2,t3_3,t3_4,t3_5,t3_6,t3_7,Qb.fst,t3_9,()),true,())) else (gd [decide (0<=t7+1),decide (t7+1<=t0.length),decide (inK .i64 (t7+1))] (hrparts_0 n (List.drop (t7+1).toNat t0) t3_0 t3_1 t3_2 t3_3 t3_4 t3_5 t3_6 t3_7 (Qb.fst) t3_9 t4_0 t4_1 t4_2 t4_3 t4_4 t4_5 t4_6 t4_7 t4_8 t4_9 t5 t6_0 t6_1 true t6_3)))))) else (gd [refNumP Qc ((2:Int))] Qa)))):=by obtain ⟨rfl⟩:=Qb';obtain ⟨rfl⟩:=Qc';obtain ⟨rfl⟩:=Qa';kernel_rfl
theorem erparts_2_8 (n:Nat) (t0:L8) (t3_0:Int) (t3_1:L8) (t3_2:Int) (t3_3:L8) (t3_4:Int) (t3_5 t3_6 t3_7:L8) (t3_8:Int) (t3_9:Bool) (t4_0:Int) (t4_1:L8) (t4_2:Int) (t4_3:L8) (t4_4:Int) (t4_5 t4_6 t4_7:L8) (t4_8:Int) (t4_9 t5 t6_0 t6_1 t6_2 t6_3:Bool) (t7:Int) (t8:L8) {Qa}[Qa':QA (some ((t3_0,t3_1,t3_2,t3_3,t3_4,t3_5,t3_6,t3_7,t3_8,t3_9,()),false,())) Qa]:hrparts_2 (n+1) t0 t3_0 t3_1 t3_2 t3_3 t3_4 t3_5 t3_6 t3_7 t3_8 t3_9 t4_0 t4_1 t4_2 t4_3 t4_4 t4_5 t4_6 t4_7 t4_8 t4_9 t5 t6_0 t6_1 t6_2 t6_3 t7 t8 (ePre) (eAft) (eMax) (eVer) ((3:Int)) ((4:Int))= (bif t6_3 then Qa else (gd [decide ((9:Int)<=(↑t8.length:Int))] (bif !List.drop 9 t8==[49] then Qa else (bif t7==(↑t0.length:Int) then (some (((5:Int),t3_1,t3_2,t3_3,t3_4,t3_5,t3_6,t3_7,t3_8,t3_9,()),true,())) else (gd [decide (0<=t7+1),decide (t7+1<=t0.length),decide (inK .i64 (t7+1))] (hrparts_0 n (List.drop (t7+1).toNat t0) ((5:Int)) t3_1 t3_2 t3_3 t3_4 t3_5 t3_6 t3_7 t3_8 t3_9 t4_0 t4_1 t4_2 t4_3 t4_4 t4_5 t4_6 t4_7 t4_8 t4_9 t5 t6_0 t6_1 t6_2 true)))))):=by obtain ⟨rfl⟩:=Qa';kernel_rfl
theorem erparts_0 (n:Nat) (t0:L8) (t3_0:Int) (t3_1:L8) (t3_2:Int) (t3_3:L8) (t3_4:Int) (t3_5 t3_6 t3_7:L8) (t3_8:Int) (t3_9:Bool) (t4_0:Int) (t4_1:L8) (t4_2:Int) (t4_3:L8) (t4_4:Int) (t4_5 t4_6 t4_7:L8) (t4_8:Int) (t4_9 t5 t6_0 t6_1 t6_2 t6_3:Bool):hrparts_0 (n+1) t0 t3_0 t3_1 t3_2 t3_3 t3_4 t3_5 t3_6 t3_7 t3_8 t3_9 t4_0 t4_1 t4_2 t4_3 t4_4 t4_5 t4_6 t4_7 t4_8 t4_9 t5 t6_0 t6_1 t6_2 t6_3=
 (hrparts_1 n (t0) (t3_0) (t3_1) (t3_2) (t3_3) (t3_4) (t3_5) (t3_6) (t3_7) (t3_8) (t3_9) (t4_0) (t4_1) (t4_2) (t4_3) (t4_4) (t4_5) (t4_6) (t4_7) (t4_8) (t4_9) (t5) (t6_0) (t6_1) (t6_2) (t6_3) ((0:Int))):=by kernel_rfl
theorem erparts_1 (n:Nat) (t0:L8) (t3_0:Int) (t3_1:L8) (t3_2:Int) (t3_3:L8) (t3_4:Int) (t3_5 t3_6 t3_7:L8) (t3_8:Int) (t3_9:Bool) (t4_0:Int) (t4_1:L8) (t4_2:Int) (t4_3:L8) (t4_4:Int) (t4_5 t4_6 t4_7:L8) (t4_8:Int) (t4_9 t5 t6_0 t6_1 t6_2 t6_3:Bool) (t7:Int) {Qa}[Qa':QA (hrparts_2 n t0 t3_0 t3_1 t3_2 t3_3 t3_4 t3_5 t3_6 t3_7 t3_8 t3_9 t4_0 t4_1 t4_2 t4_3 t4_4 t4_5 t4_6 t4_7 t4_8 t4_9 t5 t6_0 t6_1 t6_2 t6_3 t7 (List.take t7.toNat t0) ePre eAft eMax eVer (Int.negSucc 0) ((0:Int))) Qa]:hrparts_1 (n+1) t0 t3_0 t3_1 t3_2 t3_3 t3_4 t3_5 t3_6 t3_7 t3_8 t3_9 t4_0 t4_1 t4_2 t4_3 t4_4 t4_5 t4_6 t4_7 t4_8 t4_9 t5 t6_0 t6_1 t6_2 t6_3 t7= (bif decide (t7<t0.length) then (bif (↑(t0.getD t7.toNat 0).toNat:Int) !=38 then (gd [decide (inK .i64 (t7+1)),decide (0<=t7),decide (t7<t0.length)] (hrparts_1 n t0 t3_0 t3_1 t3_2 t3_3 t3_4 t3_5 t3_6 t3_7 t3_8 t3_9 t4_0 t4_1 t4_2 t4_3 t4_4 t4_5 t4_6 t4_7 t4_8 t4_9 t5 t6_0 t6_1 t6_2 t6_3 (t7+1))) else (gd [decide (0<=t7),decide (t7<=t0.length),decide (0<=t7),decide (t7<t0.length)] Qa)) else (gd [decide (0<=t7),decide (t7<=t0.length)] Qa)):=by obtain ⟨rfl⟩:=Qa';kernel_rfl
end Go.Proofs.YtldllfocpadkeaaGreatDoor
namespace Nice
open Go Go.Eng
def InvZ (i:Nat) (a b:Int):Prop:=0<=a/\0<=b/\(i<4->a<16^i/\b=0)/\(4<=i->a<65536/\b<16^(i-4))
theorem invZ_0:InvZ 0 0 0:=⟨by omega,by omega,λ_=>⟨by decide,rfl⟩,λh=>absurd h (by decide)⟩
theorem pow16 (i:Nat):(16:Int)^(i+1)=16*16^i:=by rw[Int.pow_succ,Int.mul_comm]
theorem pow16_le {i:Nat} (h:i<=3):(16:Int)^i<=4096:=by
 have:i=0\/i=1\/i=2\/i=3:=by omega
 rcases this with rfl|rfl|rfl|rfl<;>decide
theorem invZ_a {i:Nat} {a b v:Int} (h:InvZ i a b) (hi:i<4) (h0:0<=v) (h1:v<=15):InvZ (i+1) (a*16+v) b/\a*16+v<=65535:=by
 obtain⟨q1,q2,q3,q4⟩:=h;obtain⟨q5,q6⟩:=q3 hi;have:=pow16 i;have:=pow16_le (show i<=3 by omega);refine⟨⟨by omega,by omega,λh=>⟨by omega,q6⟩,λh=> ?_⟩,by omega⟩;have e:i=3:=by omega
 subst e;refine⟨by omega,?_⟩;rw[q6];decide
theorem invZ_b {i:Nat} {a b v:Int} (h:InvZ i a b) (hi:4<=i) (hi8:i<8) (h0:0<=v) (h1:v<=15):InvZ (i+1) a (b*16+v)/\b*16+v<=65535:=by
 obtain⟨q1,q2,q3,q4⟩:=h;obtain⟨q5,q6⟩:=q4 hi;have e:i+1-4=(i-4)+1:=by omega
 have:=pow16 (i-4);have:=pow16_le (show i-4<=3 by omega);exact⟨⟨q1,by omega,λh=>by omega,λ_=>⟨q5,by rw[e];omega⟩⟩,by omega⟩
theorem invZ_8 {a b:Int} (h:InvZ 8 a b):0<=a/\a<65536/\0<=b/\b<65536:=by
 obtain⟨q1,q2,q3,q4⟩:=h;obtain⟨q5,q6⟩:=q4 (by decide);exact⟨q1,q5,q2,q6⟩
theorem isHx_iff {c:UInt8}:isHx c=true↔(48<=c.toNat/\c.toNat<=57\/97<=c.toNat/\c.toNat<=102):=by
 unfold isHx;rw[decide_eq_true_iff]
theorem may_n {a b:Int} (h1:0<=a) (h2:a<65536) (h3:0<=b) (h4:b<65536):(finW (FloatKind.f64.nearest a)&&finW (FloatKind.f64.nearest b))=true/\mayW (FloatKind.f64.nearest a) (FloatKind.f64.nearest b)=(decide (a<65521)&&decide (b<65521)):=by
 obtain⟨m,rfl⟩:∃m:Nat,a=(m:Int):=⟨a.toNat,by omega⟩
 obtain⟨k,rfl⟩:∃k:Nat,b=(k:Int):=⟨b.toNat,by omega⟩
 obtain⟨w1,w2⟩:=whole_n (n:=m) (by omega);obtain⟨w3,w4⟩:=whole_n (n:=k) (by omega);refine⟨by rw[w1,w3];rfl,?_⟩;have e1:decide (m<65521)=decide ((m:Int)<65521):=by rw[decide_eq_decide];omega
 have e2:decide (k<65521)=decide ((k:Int)<65521):=by rw[decide_eq_decide];omega
 unfold mayW;rw[w2,w4,e1,e2]
end Nice
namespace Go.Proofs.YtldllfocpadkeaaGreatDoor
open Go Go.Eng Nice
set_option maxRecDepth 100000
theorem whole_nn (x a b:Nat) (h:finW x=true):owhole (x,a,b,())=some (wholeW x a b,()):=by
 rw[owhole_g,ewhole_g];unfold wholeW;cases fRel .geq .f64 x a<;>cases fRel .leq .f64 x b<;>cases fRel .eql .f64 x (truncW x)<;>simp[gd,h]
theorem gmay_nn (z:Nat×Nat) (h:(finW z.1&&finW z.2)=true):ogmay (z,())=some (mayW z.1 z.2,()):=by
 rw[Bool.and_eq_true] at h;rw[ogmay_g,egmay_g];unfold mayW;cases wholeW z.1 0 4679237813814689792<;>cases wholeW z.2 0 4679237813814689792<;>simp[gd,h.1,h.2]
def zOut (z:Option (Int×Int)):Option (Int×Int):=match z with
 |some z=>bif decide (z.1<65521)&&decide (z.2<65521) then some z else none
 |none=>none
theorem tdiv4_0 {i:Nat} (h:i<4):((i:Int)).tdiv 4=0:=by
 rw[Int.tdiv_eq_ediv_of_nonneg (by omega)];omega
theorem tdiv4_1 {i:Nat} (h:4<=i) (h8:i<8):((i:Int)).tdiv 4=1:=by
 rw[Int.tdiv_eq_ediv_of_nonneg (by omega)];omega
theorem c00 {α:Type} {a b:α}:(bif ((0:Int)==(0:Int)) then a else b)=a:=by
 have h:((0:Int)==(0:Int))=true:=by decide
 rw[h,cond_true]
theorem c10 {α:Type} {a b:α}:(bif ((1:Int)==(0:Int)) then a else b)=b:=by
 have h:((1:Int)==(0:Int))=false:=by decide
 rw[h,cond_false]
theorem g11 {α:Type} {l:List Bool} {r:Option α}:gd (((1:Int)==(1:Int))::l) r=gd l r:=by
 have h:((1:Int)==(1:Int))=true:=by decide
 exact gdB h
theorem gZ {α:Type} {r:Option α}:gd [] r=r:=by cases r<;>rw[gd_nil]
theorem gread_l (s:L8) (t3:Bool) (rest:L8):∀(done:L8) (n:Nat) (a b:Int),s=done++rest->done.length+rest.length=8->InvZ done.length a b->rest.length<n->
  hgread_0 n s t3 a b 8 (done.length:Int)=match zOut (rdF rest done.length a b) with
   |some z=>some ((FloatKind.f64.nearest z.1,FloatKind.f64.nearest z.2),true,())
   |none=>some ((0,0),false,()):=by
 induction rest with
 |nil=>
  intro done n a b hs he hv hn;obtain⟨m,rfl⟩:∃m,n=m+1:=⟨n-1,by omega⟩
  simp only[List.length_nil,Nat.add_zero] at he;rw[he] at hv;obtain⟨i1,i2,i3,i4⟩:=invZ_8 hv;obtain⟨w1,w2⟩:=may_n i1 i2 i3 i4;rw[egread_0,cdF (by omega),w2];simp only[rdF,zOut];cases hh:decide (a<65521)&&decide (b<65521)
  ·simp only[cond_false];rw[gdB w1,gZ]
  ·simp only[cond_true];rw[gdB w1,gZ]
 |cons c rest ihr=>
  intro done n a b hs he hv hn;obtain⟨m,rfl⟩:∃m,n=m+1:=⟨n-1,by omega⟩
  simp only[List.length_cons] at he hn;have hc:=c.toNat_lt;have ih:=λa' b'=>ihr (done++[c]) m a' b' (by rw[hs];simp) (by simp;omega)
  simp only[List.length_append,List.length_singleton,Int.natCast_add] at ih;have hg:s.getD done.length 0=c:=by rw[hs,getD_mid]
  have hl:s.length=8:=by rw[hs];simp;omega
  rw[egread_0];simp only[hl,Int.toNat_natCast,hg];rw[cdT (by omega)];have key:∀v:Int,0<=v->v<=15->isHx c=true->hx c=v->(done.length<4->hgread_0 m s t3 (a*16+v) b 8 ((done.length:Int)+1)=match zOut (rdF (c::rest) done.length a b) with
    |some z=>some ((FloatKind.f64.nearest z.1,FloatKind.f64.nearest z.2),true,())
    |none=>some ((0,0),false,()))/\(4<=done.length->hgread_0 m s t3 a (b*16+v) 8 ((done.length:Int)+1)=match zOut (rdF (c::rest) done.length a b) with
    |some z=>some ((FloatKind.f64.nearest z.1,FloatKind.f64.nearest z.2),true,())
    |none=>some ((0,0),false,())):=by
   intro v h0 h1 hx1 hx2;simp only[rdF,hx1,cond_true,hx2];constructor
   ·intro hi;rw[cdT hi];exact ih _ _ (invZ_a hv hi h0 h1).1 (by omega)
   ·intro hi;rw[cdF (by omega)];exact ih _ _ (invZ_b hv hi (by omega) h0 h1).1 (by omega)
  have bad:isHx c=false->(match zOut (rdF (c::rest) done.length a b) with
    |some z=>some ((FloatKind.f64.nearest z.1,FloatKind.f64.nearest z.2),true,())
    |none=>some ((0,0),false,()):Option (DenL [.cx,.bool]))=some ((0,0),false,()):=by
   intro hx1;simp only[rdF,hx1,cond_false,zOut]
  by_cases h1:48<=c.toNat
  ·by_cases h2:c.toNat<=57
   ·obtain⟨k1,k2⟩:=key ((c.toNat:Int)-48) (by omega) (by omega) (isHx_iff.2 (.inl ⟨h1,h2⟩)) (by unfold hx;rw[cdT h2]);by_cases hi:done.length<4
    ·have hb:=(invZ_a hv hi (v:=(c.toNat:Int)-48) (by omega) (by omega)).2;have h0:=hv.1;simp only[tdiv4_0 hi,c00];simp(disch:=omega) only[cdT,gdT,gZ,inK_i64];exact k1 hi
    ·have hb:=(invZ_b hv (by omega) (by omega) (v:=(c.toNat:Int)-48) (by omega) (by omega)).2;have h0:=hv.2.1;simp only[tdiv4_1 (show 4<=done.length by omega) (by omega),c10,g11];simp(disch:=omega) only[cdT,gdT,gZ,inK_i64,g11];exact k2 (by omega)
   ·by_cases h3:97<=c.toNat/\c.toNat<=102
    ·obtain⟨k1,k2⟩:=key ((c.toNat:Int)-87) (by omega) (by omega) (isHx_iff.2 (.inr h3)) (by unfold hx;rw[cdF h2]);by_cases hi:done.length<4
     ·have hb:=(invZ_a hv hi (v:=(c.toNat:Int)-87) (by omega) (by omega)).2;have h0:=hv.1;simp only[tdiv4_0 hi,c00];simp(disch:=omega) only[cdT,cdF,gdT,gZ,inK_i64];exact k1 hi
     ·have hb:=(invZ_b hv (by omega) (by omega) (v:=(c.toNat:Int)-87) (by omega) (by omega)).2;have h0:=hv.2.1;simp only[tdiv4_1 (show 4<=done.length by omega) (by omega),c10,g11];simp(disch:=omega) only[cdT,cdF,gdT,gZ,inK_i64,g11];exact k2 (by omega)
    ·rw[bad (by cases hb:isHx c;rfl;have:=isHx_iff.1 hb;omega)];by_cases h4:97<=c.toNat
     ·simp(disch:=omega) only[cdT,cdF,gdT,gZ,inK_i64]
     ·simp(disch:=omega) only[cdT,cdF,gdT,gZ,inK_i64]
  ·rw[bad (by cases hb:isHx c;rfl;have:=isHx_iff.1 hb;omega)];simp(disch:=omega) only[cdT,cdF,gdT,gZ,inK_i64]
theorem gread_n (s:L8):ogread (s,())=some ((gRead s).1,(gRead s).2,()):=by
 rw[ogread_g,egread_g];unfold gRead rdZ;by_cases h:s.length=8
 ·have e:((s.length:Int) !=8)=false:=by rw[h];rfl
  have e2:((s.length:Int))=8:=by omega
  rw[e,cond_false,decide_eq_true h,cond_true,e2];have:=gread_l s false s [] heads0 0 0 rfl (by simpa using h) invZ_0 (by unfold heads0;omega);refine this.trans ?_;show _=some ((match zOut (rdF s 0 0 0) with
   |some z=>((FloatKind.f64.nearest z.1,FloatKind.f64.nearest z.2),true)
   |none=>((0,0),false)).1,(match zOut (rdF s 0 0 0) with
   |some z=>((FloatKind.f64.nearest z.1,FloatKind.f64.nearest z.2),true)
   |none=>((0,0),false)).2,())
  show(match zOut (rdF s 0 0 0) with
   |some z=>some ((FloatKind.f64.nearest z.1,FloatKind.f64.nearest z.2),true,())
   |none=>some ((0,0),false,()))=_
  cases zOut (rdF s 0 0 0)<;>rfl
 ·have e:((s.length:Int) !=8)=true:=by simp;omega
  rw[e,cond_true,decide_eq_false h];rfl
theorem rread_l (s:L8) (u0 u1:Int) (t3:Bool) (rest:L8):∀(done:L8) (n:Nat) (a b:Int),s=done++rest->done.length+rest.length=8->InvZ done.length a b->rest.length<n->
  hrread_0 n s u0 u1 t3 a b (done.length:Int)=match zOut (rdF rest done.length a b) with
   |some z=>some ((z.1,z.2,()),true,())
   |none=>some ((0,0,()),false,()):=by
 induction rest with
 |nil=>
  intro done n a b hs he hv hn;obtain⟨m,rfl⟩:∃m,n=m+1:=⟨n-1,by omega⟩
  simp only[List.length_nil,Nat.add_zero] at he;rw[he] at hv;obtain⟨i1,i2,i3,i4⟩:=invZ_8 hv;rw[erread_0,cdF (by omega)];simp only[rdF,zOut];by_cases h1:a<65521
  ·by_cases h2:b<65521
   ·rw[decide_eq_true h1,decide_eq_true h2,cdF (by omega),cdF (by omega)];rfl
   ·rw[decide_eq_true h1,decide_eq_false h2,cdF (by omega),cdT (by omega)];rfl
  ·rw[decide_eq_false h1,cdT (by omega)];rfl
 |cons c rest ihr=>
  intro done n a b hs he hv hn;obtain⟨m,rfl⟩:∃m,n=m+1:=⟨n-1,by omega⟩
  simp only[List.length_cons] at he hn;have hc:=c.toNat_lt;have ih:=λa' b'=>ihr (done++[c]) m a' b' (by rw[hs];simp) (by simp;omega)
  simp only[List.length_append,List.length_singleton,Int.natCast_add] at ih;have hg:s.getD done.length 0=c:=by rw[hs,getD_mid]
  have hl:s.length=8:=by rw[hs];simp;omega
  rw[erread_0];simp only[hl,Int.toNat_natCast,hg];rw[cdT (by omega)];have key:∀v:Int,0<=v->v<=15->isHx c=true->hx c=v->(done.length<4->hrread_0 m s u0 u1 t3 (a*16+v) b ((done.length:Int)+1)=match zOut (rdF (c::rest) done.length a b) with
    |some z=>some ((z.1,z.2,()),true,())
    |none=>some ((0,0,()),false,()))/\(4<=done.length->hrread_0 m s u0 u1 t3 a (b*16+v) ((done.length:Int)+1)=match zOut (rdF (c::rest) done.length a b) with
    |some z=>some ((z.1,z.2,()),true,())
    |none=>some ((0,0,()),false,())):=by
   intro v h0 h1 hx1 hx2;simp only[rdF,hx1,cond_true,hx2];constructor
   ·intro hi;rw[cdT hi];exact ih _ _ (invZ_a hv hi h0 h1).1 (by omega)
   ·intro hi;rw[cdF (by omega)];exact ih _ _ (invZ_b hv hi (by omega) h0 h1).1 (by omega)
  have bad:isHx c=false->(match zOut (rdF (c::rest) done.length a b) with
    |some z=>some ((z.1,z.2,()),true,())
    |none=>some ((0,0,()),false,()):Option (DenL [ZT,.bool]))=some ((0,0,()),false,()):=by
   intro hx1;simp only[rdF,hx1,cond_false,zOut]
  by_cases h1:48<=c.toNat
  ·by_cases h2:c.toNat<=57
   ·obtain⟨k1,k2⟩:=key ((c.toNat:Int)-48) (by omega) (by omega) (isHx_iff.2 (.inl ⟨h1,h2⟩)) (by unfold hx;rw[cdT h2]);by_cases hi:done.length<4
    ·have hb:=(invZ_a hv hi (v:=(c.toNat:Int)-48) (by omega) (by omega)).2;have h0:=hv.1;simp only[tdiv4_0 hi,c00];simp(disch:=omega) only[cdT,gdT,gZ,inK_i64];exact k1 hi
    ·have hb:=(invZ_b hv (by omega) (by omega) (v:=(c.toNat:Int)-48) (by omega) (by omega)).2;have h0:=hv.2.1;simp only[tdiv4_1 (show 4<=done.length by omega) (by omega),c10,g11];simp(disch:=omega) only[cdT,gdT,gZ,inK_i64,g11];exact k2 (by omega)
   ·by_cases h3:97<=c.toNat/\c.toNat<=102
    ·obtain⟨k1,k2⟩:=key ((c.toNat:Int)-87) (by omega) (by omega) (isHx_iff.2 (.inr h3)) (by unfold hx;rw[cdF h2]);by_cases hi:done.length<4
     ·have hb:=(invZ_a hv hi (v:=(c.toNat:Int)-87) (by omega) (by omega)).2;have h0:=hv.1;simp only[tdiv4_0 hi,c00];simp(disch:=omega) only[cdT,cdF,gdT,gZ,inK_i64];exact k1 hi
     ·have hb:=(invZ_b hv (by omega) (by omega) (v:=(c.toNat:Int)-87) (by omega) (by omega)).2;have h0:=hv.2.1;simp only[tdiv4_1 (show 4<=done.length by omega) (by omega),c10,g11];simp(disch:=omega) only[cdT,cdF,gdT,gZ,inK_i64,g11];exact k2 (by omega)
    ·rw[bad (by cases hb:isHx c;rfl;have:=isHx_iff.1 hb;omega)];by_cases h4:97<=c.toNat
     ·simp(disch:=omega) only[cdT,cdF,gdT,gZ,inK_i64]
     ·simp(disch:=omega) only[cdT,cdF,gdT,gZ,inK_i64]
  ·rw[bad (by cases hb:isHx c;rfl;have:=isHx_iff.1 hb;omega)];simp(disch:=omega) only[cdT,cdF,gdT,gZ,inK_i64]
theorem rread_n (s:L8):orread (s,())=some ((rRead s).1,(rRead s).2,()):=by
 rw[orread_g,erread_g];unfold rRead rdZ;by_cases h:s.length=8
 ·have e:((s.length:Int) !=8)=false:=by rw[h];rfl
  rw[e,cond_false,decide_eq_true h,cond_true];have:=rread_l s 0 0 false s [] heads0 0 0 rfl (by simpa using h) invZ_0 (by unfold heads0;omega);refine this.trans ?_;show _=some ((match zOut (rdF s 0 0 0) with
   |some z=>((z.1,z.2,()),true)
   |none=>((0,0,()),false)).1,(match zOut (rdF s 0 0 0) with
   |some z=>((z.1,z.2,()),true)
   |none=>((0,0,()),false)).2,())
  show(match zOut (rdF s 0 0 0) with
   |some z=>some ((z.1,z.2,()),true,())
   |none=>some ((0,0,()),false,()))=_
  cases zOut (rdF s 0 0 0)<;>rfl
 ·have e:((s.length:Int) !=8)=true:=by simp;omega
  rw[e,cond_true,decide_eq_false h];rfl
