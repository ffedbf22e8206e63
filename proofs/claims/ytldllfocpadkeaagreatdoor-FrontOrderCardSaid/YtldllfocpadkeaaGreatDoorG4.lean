/-
  Part of the proof: NiceC PQ NiceG QO QC QD LT. No condition.
-/
import Derived.Test.YtldllfocpadkeaaGreatDoorG3
import Derived.Test.YtldllfocpadkeaaGreatDoorG1
import Derived.Test.YtldllfocpadkeaaGreatDoorSym
namespace Nice
open Go Go.Eng
def inmW:List UInt8:=[73,102,45,78,111,110,101,45,77,97,116,99,104]
def imW:List UInt8:=[73,102,45,77,97,116,99,104]
def putW:List UInt8:=[80,85,84]
def delW:List UInt8:=[68,69,76,69,84,69]
abbrev HeadL:Type:=List (List UInt8×List UInt8×Unit)
abbrev ReqW:Type:=List UInt8×List UInt8×List UInt8×HeadL×List UInt8×Unit
def idxG (x:List UInt8):List (List UInt8)→Int→Int
 |[],_=> -1
 |y::r,k=>bif x==y then k else idxG x r (k+1)
def idxS (l:List (List UInt8)) (x:List UInt8):Int:=idxG x l 0
def hasS (l:List (List UInt8)) (x:List UInt8):Bool:=l.any fun y=>x==y
def splitN (q:List UInt8):List (List UInt8):=Lib.split q [38]
def cutE (p:List UInt8):List UInt8×List UInt8×Bool:=Lib.cut p [61]
def shortS (s:List UInt8):Bool:=decide (s.length<4294967281)
def condsP (l:HeadL):Bool:=(valueP l inmW&&valueP l imW)&&bndS (valueN l imW).1
def tagA (s:List UInt8):List UInt8×Bool:=((cutSuf (cutPre s [34]).1 [34]).1,(cutPre s [34]).2&&((cutSuf (cutPre s [34]).1 [34]).2&&(gRead (cutSuf (cutPre s [34]).1 [34]).1).2))
def condsN (l:HeadL):Int×List UInt8×Bool:=
 bif (valueN l inmW).2 then(bif (valueN l imW).2 then(0,[],false) else(1,[],(valueN l inmW).1==[42]))
 else bif (valueN l imW).2 then(2,(tagA (valueN l imW).1).1,(tagA (valueN l imW).1).2) else(0,[],true)
def setPut (a:AskD) (b:List UInt8) (c:Int) (t:List UInt8):AskD:=(2,a.2.1,a.2.2.1,b,c,t,a.2.2.2.2.2.2)
def setKV (a:AskD) (k v:Int):AskD:=(k,a.2.1,v,a.2.2.2)
def verN (q:List UInt8):Int×Bool:=((numN (cutPre q vPre).1 (cutPre q vPre).1.length 1 1099511627776).1,(numN (cutPre q vPre).1 (cutPre q vPre).1.length 1 1099511627776).2&&((cutPre q vPre).2&& !((cutPre q vPre).1.getD 0 0==48)))
def keyedG (a:AskD) (m q:List UInt8) (hs:HeadL) (b:List UInt8):AskD×Bool:=
 bif isKey a.2.1 then
  bif m==putW then(setPut a b (condsN hs).1 (condsN hs).2.1,(condsN hs).2.2&&q==[])
  else bif q==[] then(setKV a (bif m==delW then 3 else 1) a.2.2.1,true)
  else(setKV a (bif m==delW then 3 else 1) (verN q).1,(verN q).2)
 else(a,false)
def lset (n v:List UInt8) (a:AskD):AskD×Bool:=
 bif n==wPre then(setPre a v,keyB v)
 else bif n==wAft then(setAft a v,keyB v)
 else bif n==wMax then(setMax a (numN v 2 1 20).1,(numN v 2 1 20).2)
 else bif n==wVer then(setKind a 5,v==[49])
 else(a,false)
def listedGo:List (List UInt8)→List (List UInt8)→AskD→AskD×Bool
 |[],_,a=>(a,true)
 |p::r,seen,a=>
  bif (cutE p).2.2 then
   bif hasS seen (cutE p).1 then(a,false)
   else bif (lset (cutE p).1 (cutE p).2.1 a).2 then listedGo r (seen++[(cutE p).1]) (lset (cutE p).1 (cutE p).2.1 a).1
   else((lset (cutE p).1 (cutE p).2.1 a).1,false)
  else(a,false)
def listedN (a:AskD) (q:List UInt8):AskD×Bool:=bif q==[] then(setMax (setKind a 4) 20,true) else listedGo (splitN q) [] (setMax (setKind a 4) 20)
noncomputable def hasSufT:PSpec:=⟨[.str,.str],[.bool],fun x=>bndS x.1,fun x=>(hasSuf x.1 x.2.1,())⟩
noncomputable def cutSufT:PSpec:=⟨[.str,.str],[.str,.bool],fun x=>bndS x.1,fun x=>((cutSuf x.1 x.2.1).1,(cutSuf x.1 x.2.1).2,())⟩
noncomputable def splitS:PSpec:=⟨[.str,.str],[.slice .str],fun x=>shortS x.1&&x.2.1==[38],fun x=>(splitN x.1,())⟩
noncomputable def cutES:PSpec:=⟨[.str,.str],[.str,.str,.bool],fun x=>shortS x.1&&x.2.1==[61],fun x=>((cutE x.1).1,(cutE x.1).2.1,(cutE x.1).2.2,())⟩
noncomputable def idxSS:PSpec:=⟨[.slice .str,.str],[.int .i64],fun x=>decide (x.1.length≤1000),fun x=>(idxS x.1 x.2.1,())⟩
noncomputable def hasSS:PSpec:=⟨[.slice .str,.str],[.bool],fun x=>decide (x.1.length≤1000),fun x=>(hasS x.1 x.2.1,())⟩
noncomputable def condsS:PSpec:=⟨[ReqT],[.int .i64,.str,.bool],fun x=>condsP x.1.2.2.2.1,fun x=>((condsN x.1.2.2.2.1).1,(condsN x.1.2.2.2.1).2.1,(condsN x.1.2.2.2.1).2.2,())⟩
noncomputable def keyedGS:PSpec:=⟨[AskT,ReqT],[AskT,.bool],fun x=>condsP x.2.1.2.2.2.1&&(bndS x.2.1.2.2.1&&bndS x.1.2.1),fun x=>((keyedG x.1 x.2.1.1 x.2.1.2.2.1 x.2.1.2.2.2.1 x.2.1.2.2.2.2.1).1,(keyedG x.1 x.2.1.1 x.2.1.2.2.1 x.2.1.2.2.2.1 x.2.1.2.2.2.2.1).2,())⟩
noncomputable def listedS:PSpec:=⟨[AskT,.str],[AskT,.bool],fun x=>shortS x.2.1,fun x=>((listedN x.1 x.2.1).1,(listedN x.1 x.2.1).2,())⟩
end Nice
namespace Nice
open Go Go.Eng
def getW:List UInt8:=[71,69,84]
def headW:List UInt8:=[72,69,65,68]
def oW:List UInt8:=[47,111]
def ooW:List UInt8:=[47,111,47]
abbrev SeenD:Type:=Bool×Bool×Bool×Bool
end Nice
namespace Nice
open Go Go.Eng
def kAsk (k:List UInt8) (b:Bool):AskD:=(0,k,0,[],0,[],[],[],0,b,())
def bAsk (b:Bool):AskD:=(0,[],0,[],0,[],[],[],0,b,())
def listOut (h:Bool) (q b:List UInt8):AskD×Int:=bif (listedN (bAsk h) q).2&&b==[] then((listedN (bAsk h) q).1,0) else(zAsk,400)
def keyOut (h:Bool) (m p q:List UInt8) (hs:HeadL) (b:List UInt8):AskD×Int:=
 bif (keyedG (kAsk (p.drop 3) h) m q hs b).2&&(m==putW||b==[]) then((keyedG (kAsk (p.drop 3) h) m q hs b).1,0) else(zAsk,400)
def ofN (r:ReqW):AskD×Int:=
 bif r.2.1==oW||r.2.1==ooW then(bif r.1==getW||r.1==headW then listOut (r.1==headW) r.2.2.1 r.2.2.2.2.1 else(zAsk,405))
 else bif hasPre r.2.1 ooW then(bif (r.1==getW||r.1==headW)||(r.1==putW||r.1==delW) then keyOut (r.1==headW) r.1 r.2.1 r.2.2.1 r.2.2.2.1 r.2.2.2.2.1 else(zAsk,405))
 else(zAsk,404)
def ofP (r:ReqW):Bool:=condsP r.2.2.2.1&&(shortS r.2.2.1&&bndS r.2.1)
noncomputable def ofS:PSpec:=⟨[ReqT],[AskT,.int .i64],fun x=>ofP x.1,fun x=>((ofN x.1).1,(ofN x.1).2,())⟩
end Nice
namespace Go.Proofs.YtldllfocpadkeaaGreatDoor
open Go Go.Eng Nice
set_option maxRecDepth 1000000
abbrev shaOfGet:List (Nat×List (Nat×Sh)):=[]
noncomputable def oaOfGet (x:DenL [ReqT]):Option (DenL [AskT,.int .i64]):=fO Tryz.prog (envS [(131,hasPreS),(89,listedS),(90,keyedGS)]) (shOf shaOfGet) Tryz.f47 [ReqT] [AskT,.int .i64] x
theorem eaOfGet_g (N:Nat) (x1 x2:List UInt8) (x3:List (List UInt8×List UInt8×Unit)) (x4:List UInt8):fON Tryz.prog (envS [(131,hasPreS),(89,listedS),(90,keyedGS)]) (shOf shaOfGet) Tryz.f47 [ReqT] [AskT,.int .i64] N ((getW,x1,x2,x3,x4,()),())=
 (bif x1==oW then
  (bif (listedN zAsk x2).snd then
   (gd [shortS x2] (bif !x4==[] then
    (some (zAsk,(400:Int),()))
   else
    (some ((listedN zAsk x2).fst,(0:Int),()))))
  else
   (gd [shortS x2] (some (zAsk,(400:Int),()))))
 else
  (bif x1==ooW then
   (bif (listedN zAsk x2).snd then
    (gd [shortS x2] (bif !x4==[] then
     (some (zAsk,(400:Int),()))
    else
     (some ((listedN zAsk x2).fst,(0:Int),()))))
   else
    (gd [shortS x2] (some (zAsk,(400:Int),()))))
  else
   (bif !hasPre x1 ooW then
    (some (zAsk,(404:Int),()))
   else
    (gd [decide ((3:Int)≤(↑x1.length:Int))] (bif (keyedG ((0:Int),List.drop 3 x1,(0:Int),[],(0:Int),[],[],[],(0:Int),false,()) getW x2 x3 x4).snd then
     (gd [condsP x3&&(bndS x2&&bndS (List.drop 3 x1))] (bif !x4==[] then
      (some (zAsk,(400:Int),()))
     else
      (some ((keyedG ((0:Int),List.drop 3 x1,(0:Int),[],(0:Int),[],[],[],(0:Int),false,()) getW x2 x3 x4).fst,(0:Int),()))))
    else
     (gd [condsP x3&&(bndS x2&&bndS (List.drop 3 x1))] (some (zAsk,(400:Int),())))))))):=by kernel_rfl
theorem oaOfGet_g (x:DenL [ReqT]):oaOfGet x=fON Tryz.prog (envS [(131,hasPreS),(89,listedS),(90,keyedGS)]) (shOf shaOfGet) Tryz.f47 [ReqT] [AskT,.int .i64] heads0 x:=rfl
abbrev shaOfHead:List (Nat×List (Nat×Sh)):=[]
noncomputable def oaOfHead (x:DenL [ReqT]):Option (DenL [AskT,.int .i64]):=fO Tryz.prog (envS [(131,hasPreS),(89,listedS),(90,keyedGS)]) (shOf shaOfHead) Tryz.f47 [ReqT] [AskT,.int .i64] x
theorem eaOfHead_g (N:Nat) (x1 x2:List UInt8) (x3:List (List UInt8×List UInt8×Unit)) (x4:List UInt8):fON Tryz.prog (envS [(131,hasPreS),(89,listedS),(90,keyedGS)]) (shOf shaOfHead) Tryz.f47 [ReqT] [AskT,.int .i64] N ((headW,x1,x2,x3,x4,()),())=
 (bif x1==oW then
  (bif (listedN ((0:Int),[],(0:Int),[],(0:Int),[],[],[],(0:Int),true,()) x2).snd then
   (gd [shortS x2] (bif !x4==[] then
    (some (zAsk,(400:Int),()))
   else
    (some ((listedN ((0:Int),[],(0:Int),[],(0:Int),[],[],[],(0:Int),true,()) x2).fst,(0:Int),()))))
  else
   (gd [shortS x2] (some (zAsk,(400:Int),()))))
 else
  (bif x1==ooW then
   (bif (listedN ((0:Int),[],(0:Int),[],(0:Int),[],[],[],(0:Int),true,()) x2).snd then
    (gd [shortS x2] (bif !x4==[] then
     (some (zAsk,(400:Int),()))
    else
     (some ((listedN ((0:Int),[],(0:Int),[],(0:Int),[],[],[],(0:Int),true,()) x2).fst,(0:Int),()))))
   else
    (gd [shortS x2] (some (zAsk,(400:Int),()))))
  else
   (bif !hasPre x1 ooW then
    (some (zAsk,(404:Int),()))
   else
    (gd [decide ((3:Int)≤(↑x1.length:Int))] (bif (keyedG ((0:Int),List.drop 3 x1,(0:Int),[],(0:Int),[],[],[],(0:Int),true,()) headW x2 x3 x4).snd then
     (gd [condsP x3&&(bndS x2&&bndS (List.drop 3 x1))] (bif !x4==[] then
      (some (zAsk,(400:Int),()))
     else
      (some ((keyedG ((0:Int),List.drop 3 x1,(0:Int),[],(0:Int),[],[],[],(0:Int),true,()) headW x2 x3 x4).fst,(0:Int),()))))
    else
     (gd [condsP x3&&(bndS x2&&bndS (List.drop 3 x1))] (some (zAsk,(400:Int),())))))))):=by kernel_rfl
theorem oaOfHead_g (x:DenL [ReqT]):oaOfHead x=fON Tryz.prog (envS [(131,hasPreS),(89,listedS),(90,keyedGS)]) (shOf shaOfHead) Tryz.f47 [ReqT] [AskT,.int .i64] heads0 x:=rfl
abbrev shaOfPut:List (Nat×List (Nat×Sh)):=[]
noncomputable def oaOfPut (x:DenL [ReqT]):Option (DenL [AskT,.int .i64]):=fO Tryz.prog (envS [(131,hasPreS),(89,listedS),(90,keyedGS)]) (shOf shaOfPut) Tryz.f47 [ReqT] [AskT,.int .i64] x
theorem eaOfPut_g (N:Nat) (x1 x2:List UInt8) (x3:List (List UInt8×List UInt8×Unit)) (x4:List UInt8):fON Tryz.prog (envS [(131,hasPreS),(89,listedS),(90,keyedGS)]) (shOf shaOfPut) Tryz.f47 [ReqT] [AskT,.int .i64] N ((putW,x1,x2,x3,x4,()),())=
 (bif x1==oW then
  (some (zAsk,(405:Int),()))
 else
  (bif x1==ooW then
   (some (zAsk,(405:Int),()))
  else
   (bif !hasPre x1 ooW then
    (some (zAsk,(404:Int),()))
   else
    (gd [decide ((3:Int)≤(↑x1.length:Int))] (bif (keyedG ((0:Int),List.drop 3 x1,(0:Int),[],(0:Int),[],[],[],(0:Int),false,()) putW x2 x3 x4).snd then
     (gd [condsP x3&&(bndS x2&&bndS (List.drop 3 x1))] (bif !x4==[] then
      (some ((keyedG ((0:Int),List.drop 3 x1,(0:Int),[],(0:Int),[],[],[],(0:Int),false,()) putW x2 x3 x4).fst,(0:Int),()))
     else
      (some ((keyedG ((0:Int),List.drop 3 x1,(0:Int),[],(0:Int),[],[],[],(0:Int),false,()) putW x2 x3 x4).fst,(0:Int),()))))
    else
     (gd [condsP x3&&(bndS x2&&bndS (List.drop 3 x1))] (some (zAsk,(400:Int),())))))))):=by kernel_rfl
theorem oaOfPut_g (x:DenL [ReqT]):oaOfPut x=fON Tryz.prog (envS [(131,hasPreS),(89,listedS),(90,keyedGS)]) (shOf shaOfPut) Tryz.f47 [ReqT] [AskT,.int .i64] heads0 x:=rfl
abbrev shaOfDel:List (Nat×List (Nat×Sh)):=[]
noncomputable def oaOfDel (x:DenL [ReqT]):Option (DenL [AskT,.int .i64]):=fO Tryz.prog (envS [(131,hasPreS),(89,listedS),(90,keyedGS)]) (shOf shaOfDel) Tryz.f47 [ReqT] [AskT,.int .i64] x
theorem eaOfDel_g (N:Nat) (x1 x2:List UInt8) (x3:List (List UInt8×List UInt8×Unit)) (x4:List UInt8):fON Tryz.prog (envS [(131,hasPreS),(89,listedS),(90,keyedGS)]) (shOf shaOfDel) Tryz.f47 [ReqT] [AskT,.int .i64] N ((delW,x1,x2,x3,x4,()),())=
 (bif x1==oW then
  (some (zAsk,(405:Int),()))
 else
  (bif x1==ooW then
   (some (zAsk,(405:Int),()))
  else
   (bif !hasPre x1 ooW then
    (some (zAsk,(404:Int),()))
   else
    (gd [decide ((3:Int)≤(↑x1.length:Int))] (bif (keyedG ((0:Int),List.drop 3 x1,(0:Int),[],(0:Int),[],[],[],(0:Int),false,()) delW x2 x3 x4).snd then
     (gd [condsP x3&&(bndS x2&&bndS (List.drop 3 x1))] (bif !x4==[] then
      (some (zAsk,(400:Int),()))
     else
      (some ((keyedG ((0:Int),List.drop 3 x1,(0:Int),[],(0:Int),[],[],[],(0:Int),false,()) delW x2 x3 x4).fst,(0:Int),()))))
    else
     (gd [condsP x3&&(bndS x2&&bndS (List.drop 3 x1))] (some (zAsk,(400:Int),())))))))):=by kernel_rfl
theorem oaOfDel_g (x:DenL [ReqT]):oaOfDel x=fON Tryz.prog (envS [(131,hasPreS),(89,listedS),(90,keyedGS)]) (shOf shaOfDel) Tryz.f47 [ReqT] [AskT,.int .i64] heads0 x:=rfl
abbrev shaOfO:List (Nat×List (Nat×Sh)):=[]
noncomputable def oaOfO (x:DenL [ReqT]):Option (DenL [AskT,.int .i64]):=fO Tryz.prog (envS [(131,hasPreS),(89,noS [AskT,.str] [AskT,.bool]),(90,noS [AskT,ReqT] [AskT,.bool])]) (shOf shaOfO) Tryz.f47 [ReqT] [AskT,.int .i64] x
theorem eaOfO_g (N:Nat) (x0 x1 x2:List UInt8) (x3:List (List UInt8×List UInt8×Unit)) (x4:List UInt8):fON Tryz.prog (envS [(131,hasPreS),(89,noS [AskT,.str] [AskT,.bool]),(90,noS [AskT,ReqT] [AskT,.bool])]) (shOf shaOfO) Tryz.f47 [ReqT] [AskT,.int .i64] N ((x0,x1,x2,x3,x4,()),())=
 (bif x1==oW then
  (bif x0==getW then
   (gd [x0==headW] (none))
  else
   (bif x0==headW then
    (gd [x0==headW] (none))
   else
    (bif x0==headW then
     (some (zAsk,(405:Int),()))
    else
     (some (zAsk,(405:Int),())))))
 else
  (bif x1==ooW then
   (bif x0==getW then
    (gd [x0==headW] (none))
   else
    (bif x0==headW then
     (gd [x0==headW] (none))
    else
     (bif x0==headW then
      (some (zAsk,(405:Int),()))
     else
      (some (zAsk,(405:Int),())))))
  else
   (bif x0==getW then
    (bif x0==headW then
     (bif !hasPre x1 ooW then
      (some (zAsk,(404:Int),()))
     else
      (gd [decide ((3:Int)≤(↑x1.length:Int))] (none)))
    else
     (bif !hasPre x1 ooW then
      (some (zAsk,(404:Int),()))
     else
      (gd [decide ((3:Int)≤(↑x1.length:Int))] (none))))
   else
    (bif x0==headW then
     (bif x0==headW then
      (bif !hasPre x1 ooW then
       (some (zAsk,(404:Int),()))
      else
       (gd [decide ((3:Int)≤(↑x1.length:Int))] (none)))
     else
      (bif !hasPre x1 ooW then
       (some (zAsk,(404:Int),()))
      else
       (gd [decide ((3:Int)≤(↑x1.length:Int))] (none))))
    else
     (bif x0==headW then
      (bif !hasPre x1 ooW then
       (some (zAsk,(404:Int),()))
      else
       (bif !x0==putW then
        (bif !x0==delW then
         (some (zAsk,(405:Int),()))
        else
         (gd [decide ((3:Int)≤(↑x1.length:Int))] (none)))
       else
        (gd [decide ((3:Int)≤(↑x1.length:Int))] (none))))
     else
      (bif !hasPre x1 ooW then
       (some (zAsk,(404:Int),()))
      else
       (bif !x0==putW then
        (bif !x0==delW then
         (some (zAsk,(405:Int),()))
        else
         (gd [decide ((3:Int)≤(↑x1.length:Int))] (none)))
       else
        (gd [decide ((3:Int)≤(↑x1.length:Int))] (none))))))))):=by kernel_rfl
theorem oaOfO_g (x:DenL [ReqT]):oaOfO x=fON Tryz.prog (envS [(131,hasPreS),(89,noS [AskT,.str] [AskT,.bool]),(90,noS [AskT,ReqT] [AskT,.bool])]) (shOf shaOfO) Tryz.f47 [ReqT] [AskT,.int .i64] heads0 x:=rfl
end Go.Proofs.YtldllfocpadkeaaGreatDoor
namespace Go.Proofs.YtldllfocpadkeaaGreatDoor
open Go Go.Eng Nice
set_option maxRecDepth 1000000
abbrev shaconds:List (Nat×List (Nat×Sh)):=[]
noncomputable def oaconds (x:DenL [ReqT]):Option (DenL [.int .i64,.str,.bool]):=fO Tryz.prog (envS [(84,valueS),(194,cutPreS),(265,cutSufT),(193,gReadS)]) (shOf shaconds) Tryz.f137 [ReqT] [.int .i64,.str,.bool] x
theorem eaconds_g (N:Nat) (x0 x1 x2:List UInt8) (x3:List (List UInt8×List UInt8×Unit)) (x4:List UInt8):fON Tryz.prog (envS [(84,valueS),(194,cutPreS),(265,cutSufT),(193,gReadS)]) (shOf shaconds) Tryz.f137 [ReqT] [.int .i64,.str,.bool] N ((x0,x1,x2,x3,x4,()),())=
 (bif (valueN x3 inmW).snd then
  (gd [valueP x3 inmW] (bif (valueN x3 imW).snd then
   (gd [valueP x3 imW] (some ((0:Int),[],false,())))
  else
   (gd [valueP x3 imW] (bif (valueN x3 inmW).fst==[42] then
    (some ((1:Int),[],true,()))
   else
    (some ((1:Int),[],false,()))))))
 else
  (gd [valueP x3 inmW] (bif (valueN x3 imW).snd then
   (gd [bndS (cutPre (valueN x3 imW).fst [34]).fst,valueP x3 imW] (bif (gRead (cutSuf (cutPre (valueN x3 imW).fst [34]).fst [34]).fst).snd then
    (bif (cutPre (valueN x3 imW).fst [34]).snd then
     (bif (cutPre (valueN x3 imW).fst [34]).snd then
      (bif (cutSuf (cutPre (valueN x3 imW).fst [34]).fst [34]).snd then
       (bif (cutSuf (cutPre (valueN x3 imW).fst [34]).fst [34]).snd then
        (some ((2:Int),(cutSuf (cutPre (valueN x3 imW).fst [34]).fst [34]).fst,true,()))
       else
        (some ((2:Int),(cutSuf (cutPre (valueN x3 imW).fst [34]).fst [34]).fst,false,())))
      else
       (bif (cutSuf (cutPre (valueN x3 imW).fst [34]).fst [34]).snd then
        (none)
       else
        (some ((2:Int),(cutSuf (cutPre (valueN x3 imW).fst [34]).fst [34]).fst,false,()))))
     else
      (some ((2:Int),(cutSuf (cutPre (valueN x3 imW).fst [34]).fst [34]).fst,false,())))
    else
     (bif (cutPre (valueN x3 imW).fst [34]).snd then
      (none)
     else
      (some ((2:Int),(cutSuf (cutPre (valueN x3 imW).fst [34]).fst [34]).fst,false,()))))
   else
    (bif (cutPre (valueN x3 imW).fst [34]).snd then
     (bif (cutPre (valueN x3 imW).fst [34]).snd then
      (bif (cutSuf (cutPre (valueN x3 imW).fst [34]).fst [34]).snd then
       (bif (cutSuf (cutPre (valueN x3 imW).fst [34]).fst [34]).snd then
        (some ((2:Int),(cutSuf (cutPre (valueN x3 imW).fst [34]).fst [34]).fst,false,()))
       else
        (some ((2:Int),(cutSuf (cutPre (valueN x3 imW).fst [34]).fst [34]).fst,false,())))
      else
       (bif (cutSuf (cutPre (valueN x3 imW).fst [34]).fst [34]).snd then
        (none)
       else
        (some ((2:Int),(cutSuf (cutPre (valueN x3 imW).fst [34]).fst [34]).fst,false,()))))
     else
      (some ((2:Int),(cutSuf (cutPre (valueN x3 imW).fst [34]).fst [34]).fst,false,())))
    else
     (bif (cutPre (valueN x3 imW).fst [34]).snd then
      (none)
     else
      (some ((2:Int),(cutSuf (cutPre (valueN x3 imW).fst [34]).fst [34]).fst,false,()))))))
  else
   (gd [valueP x3 imW] (some ((0:Int),[],true,())))))):=by kernel_rfl
theorem oaconds_g (x:DenL [ReqT]):oaconds x=fON Tryz.prog (envS [(84,valueS),(194,cutPreS),(265,cutSufT),(193,gReadS)]) (shOf shaconds) Tryz.f137 [ReqT] [.int .i64,.str,.bool] heads0 x:=rfl
abbrev shakeyed:List (Nat×List (Nat×Sh)):=[]
noncomputable def oakeyed (x:DenL [AskT,ReqT]):Option (DenL [AskT,.bool]):=fO Tryz.prog (envS [(135,isKeyS),(136,numS),(137,condsS),(194,cutPreS)]) (shOf shakeyed) Tryz.f90 [AskT,ReqT] [AskT,.bool] x
theorem eakeyed_g (N:Nat) (x0:Ty.Den AskT) (x1 x2 x3:List UInt8) (x4:List (List UInt8×List UInt8×Unit)) (x5:List UInt8):fON Tryz.prog (envS [(135,isKeyS),(136,numS),(137,condsS),(194,cutPreS)]) (shOf shakeyed) Tryz.f90 [AskT,ReqT] [AskT,.bool] N (x0,(x1,x2,x3,x4,x5,()),())=
 (bif isKey x0.snd.fst then
  (gd [bndS x0.snd.fst] (bif x1==putW then
   (bif (condsN x4).snd.snd then
    (gd [condsP x4] (bif x3==[] then
     (some (((2:Int),x0.snd.fst,x0.snd.snd.fst,x5,(condsN x4).fst,(condsN x4).snd.fst,x0.snd.snd.snd.snd.snd.snd),true,()))
    else
     (some (((2:Int),x0.snd.fst,x0.snd.snd.fst,x5,(condsN x4).fst,(condsN x4).snd.fst,x0.snd.snd.snd.snd.snd.snd),false,()))))
   else
    (gd [condsP x4] (some (((2:Int),x0.snd.fst,x0.snd.snd.fst,x5,(condsN x4).fst,(condsN x4).snd.fst,x0.snd.snd.snd.snd.snd.snd),false,()))))
  else
   (bif x1==delW then
    (bif x3==[] then
     (some (((3:Int),x0.snd),true,()))
    else
     (bif (numN (cutPre x3 vPre).fst (↑(cutPre x3 vPre).fst.length:Int) ((1:Int)) ((1099511627776:Int))).snd then
      (gd [bndS (cutPre x3 vPre).fst] (bif (cutPre x3 vPre).snd then
       (bif (cutPre x3 vPre).snd then
        (bif (↑((cutPre x3 vPre).fst.getD 0 0).toNat:Int) !=(48:Int) then
         (gd [decide ((0:Int)<(↑(cutPre x3 vPre).fst.length:Int))] (some (((3:Int),x0.snd.fst,(numN (cutPre x3 vPre).fst (↑(cutPre x3 vPre).fst.length:Int) ((1:Int)) ((1099511627776:Int))).fst,x0.snd.snd.snd),true,())))
        else
         (gd [decide ((0:Int)<(↑(cutPre x3 vPre).fst.length:Int))] (some (((3:Int),x0.snd.fst,(numN (cutPre x3 vPre).fst (↑(cutPre x3 vPre).fst.length:Int) ((1:Int)) ((1099511627776:Int))).fst,x0.snd.snd.snd),false,()))))
       else
        (some (((3:Int),x0.snd.fst,(numN (cutPre x3 vPre).fst (↑(cutPre x3 vPre).fst.length:Int) ((1:Int)) ((1099511627776:Int))).fst,x0.snd.snd.snd),false,())))
      else
       (bif (cutPre x3 vPre).snd then
        (none)
       else
        (some (((3:Int),x0.snd.fst,(numN (cutPre x3 vPre).fst (↑(cutPre x3 vPre).fst.length:Int) ((1:Int)) ((1099511627776:Int))).fst,x0.snd.snd.snd),false,())))))
     else
      (gd [bndS (cutPre x3 vPre).fst] (bif (cutPre x3 vPre).snd then
       (bif (cutPre x3 vPre).snd then
        (some (((3:Int),x0.snd.fst,(numN (cutPre x3 vPre).fst (↑(cutPre x3 vPre).fst.length:Int) ((1:Int)) ((1099511627776:Int))).fst,x0.snd.snd.snd),false,()))
       else
        (some (((3:Int),x0.snd.fst,(numN (cutPre x3 vPre).fst (↑(cutPre x3 vPre).fst.length:Int) ((1:Int)) ((1099511627776:Int))).fst,x0.snd.snd.snd),false,())))
      else
       (bif (cutPre x3 vPre).snd then
        (none)
       else
        (some (((3:Int),x0.snd.fst,(numN (cutPre x3 vPre).fst (↑(cutPre x3 vPre).fst.length:Int) ((1:Int)) ((1099511627776:Int))).fst,x0.snd.snd.snd),false,())))))))
   else
    (bif x3==[] then
     (some (((1:Int),x0.snd),true,()))
    else
     (bif (numN (cutPre x3 vPre).fst (↑(cutPre x3 vPre).fst.length:Int) ((1:Int)) ((1099511627776:Int))).snd then
      (gd [bndS (cutPre x3 vPre).fst] (bif (cutPre x3 vPre).snd then
       (bif (cutPre x3 vPre).snd then
        (bif (↑((cutPre x3 vPre).fst.getD 0 0).toNat:Int) !=(48:Int) then
         (gd [decide ((0:Int)<(↑(cutPre x3 vPre).fst.length:Int))] (some (((1:Int),x0.snd.fst,(numN (cutPre x3 vPre).fst (↑(cutPre x3 vPre).fst.length:Int) ((1:Int)) ((1099511627776:Int))).fst,x0.snd.snd.snd),true,())))
        else
         (gd [decide ((0:Int)<(↑(cutPre x3 vPre).fst.length:Int))] (some (((1:Int),x0.snd.fst,(numN (cutPre x3 vPre).fst (↑(cutPre x3 vPre).fst.length:Int) ((1:Int)) ((1099511627776:Int))).fst,x0.snd.snd.snd),false,()))))
       else
        (some (((1:Int),x0.snd.fst,(numN (cutPre x3 vPre).fst (↑(cutPre x3 vPre).fst.length:Int) ((1:Int)) ((1099511627776:Int))).fst,x0.snd.snd.snd),false,())))
      else
       (bif (cutPre x3 vPre).snd then
        (none)
       else
        (some (((1:Int),x0.snd.fst,(numN (cutPre x3 vPre).fst (↑(cutPre x3 vPre).fst.length:Int) ((1:Int)) ((1099511627776:Int))).fst,x0.snd.snd.snd),false,())))))
     else
      (gd [bndS (cutPre x3 vPre).fst] (bif (cutPre x3 vPre).snd then
       (bif (cutPre x3 vPre).snd then
        (some (((1:Int),x0.snd.fst,(numN (cutPre x3 vPre).fst (↑(cutPre x3 vPre).fst.length:Int) ((1:Int)) ((1099511627776:Int))).fst,x0.snd.snd.snd),false,()))
       else
        (some (((1:Int),x0.snd.fst,(numN (cutPre x3 vPre).fst (↑(cutPre x3 vPre).fst.length:Int) ((1:Int)) ((1099511627776:Int))).fst,x0.snd.snd.snd),false,())))
      else
       (bif (cutPre x3 vPre).snd then
        (none)
       else
        (some (((1:Int),x0.snd.fst,(numN (cutPre x3 vPre).fst (↑(cutPre x3 vPre).fst.length:Int) ((1:Int)) ((1099511627776:Int))).fst,x0.snd.snd.snd),false,()))))))))))
 else
  (gd [bndS x0.snd.fst] (some (x0,false,())))):=by kernel_rfl
theorem oakeyed_g (x:DenL [AskT,ReqT]):oakeyed x=fON Tryz.prog (envS [(135,isKeyS),(136,numS),(137,condsS),(194,cutPreS)]) (shOf shakeyed) Tryz.f90 [AskT,ReqT] [AskT,.bool] heads0 x:=rfl
abbrev shhsuf:List (Nat×List (Nat×Sh)):=[]
noncomputable def ohsuf (x:DenL [.str,.str]):Option (DenL [.bool]):=fO Tryz.prog (envS []) (shOf shhsuf) Tryz.f314 [.str,.str] [.bool] x
theorem ehsuf_g (N:Nat) (x0 x1:List UInt8):fON Tryz.prog (envS []) (shOf shhsuf) Tryz.f314 [.str,.str] [.bool] N (x0,x1,())=
 (bif decide ((↑x0.length:Int)≥(↑x1.length:Int)) then
  (bif List.drop ((↑x0.length:Int)-(↑x1.length:Int)).toNat x0==x1 then
   (gd [decide ((0:Int)≤(↑x0.length:Int)-(↑x1.length:Int)),decide ((↑x0.length:Int)-(↑x1.length:Int)≤(↑x0.length:Int)),decide (inK .i64 ((↑x0.length:Int)-(↑x1.length:Int)))] (some (true,())))
  else
   (gd [decide ((0:Int)≤(↑x0.length:Int)-(↑x1.length:Int)),decide ((↑x0.length:Int)-(↑x1.length:Int)≤(↑x0.length:Int)),decide (inK .i64 ((↑x0.length:Int)-(↑x1.length:Int)))] (some (false,()))))
 else
  (some (false,()))):=by kernel_rfl
theorem ohsuf_g (x:DenL [.str,.str]):ohsuf x=fON Tryz.prog (envS []) (shOf shhsuf) Tryz.f314 [.str,.str] [.bool] heads0 x:=rfl
abbrev shcsuf:List (Nat×List (Nat×Sh)):=[]
noncomputable def ocsuf (x:DenL [.str,.str]):Option (DenL [.str,.bool]):=fO Tryz.prog (envS [(314,hasSufT)]) (shOf shcsuf) Tryz.f265 [.str,.str] [.str,.bool] x
theorem ecsuf_g (N:Nat) (x0 x1:List UInt8):fON Tryz.prog (envS [(314,hasSufT)]) (shOf shcsuf) Tryz.f265 [.str,.str] [.str,.bool] N (x0,x1,())=
 (bif hasSuf x0 x1 then
  (gd [decide ((0:Int)≤(↑x0.length:Int)-(↑x1.length:Int)),decide ((↑x0.length:Int)-(↑x1.length:Int)≤(↑x0.length:Int)),decide (inK .i64 ((↑x0.length:Int)-(↑x1.length:Int))),bndS x0] (some (List.take ((↑x0.length:Int)-(↑x1.length:Int)).toNat x0,true,())))
 else
  (gd [bndS x0] (some (x0,false,())))):=by kernel_rfl
theorem ocsuf_g (x:DenL [.str,.str]):ocsuf x=fON Tryz.prog (envS [(314,hasSufT)]) (shOf shcsuf) Tryz.f265 [.str,.str] [.str,.bool] heads0 x:=rfl
abbrev shsidx:List (Nat×List (Nat×Sh)):=[(2,[(0,(.one (.dat .str))),(1,(.one .sym)),(4,(.one .sym)),(7,(.one .sym)),(8,(.one .sym))])]
noncomputable def hsidx_0 (n:Nat) (t0:List (Ty.Den .str)) (t1:List UInt8) (t4:Int) (t7:Int) (t8:Int):Option (DenL [.int .i64]):=rH Tryz.prog (envS []) (shOf shsidx) Tryz.f187 [.int .i64] n 0 [(0,dt 10),(1,sy (.string (bs t1))),(4,sy (.int .i64 t4)),(7,sy (.int .i64 t7)),(8,sy (.int .i64 t8))] [.dat .str t0]
noncomputable def osidx (x:DenL [.slice .str,.str]):Option (DenL [.int .i64]):=fO Tryz.prog (envS []) (shOf shsidx) Tryz.f187 [.slice .str,.str] [.int .i64] x
theorem esidx_g (N:Nat) (x0:List (List UInt8)) (x1:List UInt8):fON Tryz.prog (envS []) (shOf shsidx) Tryz.f187 [.slice .str,.str] [.int .i64] N (x0,x1,())=
 (hsidx_0 N (x0) (x1) ((0:Int)) ((↑x0.length:Int)) ((0:Int))):=by kernel_rfl
theorem osidx_g (x:DenL [.slice .str,.str]):osidx x=fON Tryz.prog (envS []) (shOf shsidx) Tryz.f187 [.slice .str,.str] [.int .i64] heads0 x:=rfl
theorem esidx_0 (n:Nat) (t0:List (Ty.Den .str)) (t1:List UInt8) (t4:Int) (t7:Int) (t8:Int):hsidx_0 (n+1) t0 t1 t4 t7 t8=
 (bif decide (t8<t7) then
  (bif t1==t0.getD t8.toNat Ty.str.dflt then
   (gd [decide (t8.toNat<t0.length),decide ((0:Int)≤t8),decide (t8<(↑t0.length:Int))] (some (t8,())))
  else
   (gd [decide (inK .i64 (t8+(1:Int))),decide (t8.toNat<t0.length),decide ((0:Int)≤t8),decide (t8<(↑t0.length:Int))] (hsidx_0 n (t0) (t1) (t4) (t7) (t8+(1:Int)))))
 else
  (some (Int.negSucc 0,()))):=by kernel_rfl
abbrev shshas:List (Nat×List (Nat×Sh)):=[]
noncomputable def oshas (x:DenL [.slice .str,.str]):Option (DenL [.bool]):=fO Tryz.prog (envS [(187,idxSS)]) (shOf shshas) Tryz.f134 [.slice .str,.str] [.bool] x
theorem eshas_g (N:Nat) (x0:List (List UInt8)) (x1:List UInt8):fON Tryz.prog (envS [(187,idxSS)]) (shOf shshas) Tryz.f134 [.slice .str,.str] [.bool] N (x0,x1,())=
 (bif decide (idxS x0 x1≥(0:Int)) then
  (gd [decide (x0.length≤1000)] (some (true,())))
 else
  (gd [decide (x0.length≤1000)] (some (false,())))):=by kernel_rfl
theorem oshas_g (x:DenL [.slice .str,.str]):oshas x=fON Tryz.prog (envS [(187,idxSS)]) (shOf shshas) Tryz.f134 [.slice .str,.str] [.bool] heads0 x:=rfl
abbrev shlisted:List (Nat×List (Nat×Sh)):=[(6,[(2,(.obj [.sym,.sym,.sym,.sym,.sym,.sym,.sym,.sym,.sym,.sym])),(4,(.obj [.sym,.sym,.sym,.sym,.sym,.sym,.sym,.sym,.sym,.sym])),(5,(.one .sym)),(6,(.one (.vec .str 9))),(21,(.one (.dat .str))),(22,(.one .sym)),(23,(.one .sym))])]
noncomputable def hlisted_0 (n:Nat) (t2_0:Int) (t2_1:List UInt8) (t2_2:Int) (t2_3:List UInt8) (t2_4:Int) (t2_5:List UInt8) (t2_6:List UInt8) (t2_7:List UInt8) (t2_8:Int) (t2_9:Bool) (t4_0:Int) (t4_1:List UInt8) (t4_2:Int) (t4_3:List UInt8) (t4_4:Int) (t4_5:List UInt8) (t4_6:List UInt8) (t4_7:List UInt8) (t4_8:Int) (t4_9:Bool) (t5:Bool) (t6:List (Ty.Den .str)) (t21:List (Ty.Den .str)) (t22:Int) (t23:Int):Option (DenL [AskT,.bool]):=rH Tryz.prog (envS [(135,isKeyS),(132,splitS),(133,cutES),(134,hasSS),(136,numS)]) (shOf shlisted) Tryz.f89 [AskT,.bool] n 0 [(2,.pointer (some ⟨10,0,none⟩)),(4,.pointer (some ⟨11,0,none⟩)),(5,.bool t5),(6,dt 12),(21,dt 13),(22,sy (.int .i64 t22)),(23,sy (.int .i64 t23))] [.row [sy (.int .i64 t2_0),sy (.string (bs t2_1)),sy (.int .i64 t2_2),sy (.string (bs t2_3)),sy (.int .i64 t2_4),sy (.string (bs t2_5)),sy (.string (bs t2_6)),sy (.string (bs t2_7)),sy (.int .i64 t2_8),.bool t2_9] 28 false,.row [sy (.int .i64 t4_0),sy (.string (bs t4_1)),sy (.int .i64 t4_2),sy (.string (bs t4_3)),sy (.int .i64 t4_4),sy (.string (bs t4_5)),sy (.string (bs t4_6)),sy (.string (bs t4_7)),sy (.int .i64 t4_8),.bool t4_9] 28 false,.vec .str t6 9,.dat .str t21]
noncomputable def olisted (x:DenL [AskT,.str]):Option (DenL [AskT,.bool]):=fO Tryz.prog (envS [(135,isKeyS),(132,splitS),(133,cutES),(134,hasSS),(136,numS)]) (shOf shlisted) Tryz.f89 [AskT,.str] [AskT,.bool] x
theorem elisted_g (N:Nat) (x0:Ty.Den AskT) (x1:List UInt8):fON Tryz.prog (envS [(135,isKeyS),(132,splitS),(133,cutES),(134,hasSS),(136,numS)]) (shOf shlisted) Tryz.f89 [AskT,.str] [AskT,.bool] N (x0,x1,())=
 (bif x1==[] then
  (some (((4:Int),x0.snd.fst,x0.snd.snd.fst,x0.snd.snd.snd.fst,x0.snd.snd.snd.snd.fst,x0.snd.snd.snd.snd.snd.fst,x0.snd.snd.snd.snd.snd.snd.fst,x0.snd.snd.snd.snd.snd.snd.snd.fst,(20:Int),x0.snd.snd.snd.snd.snd.snd.snd.snd.snd.fst,()),true,()))
 else
  (gd [shortS x1&&[38]==[38]] (hlisted_0 N ((4:Int)) (x0.snd.fst) (x0.snd.snd.fst) (x0.snd.snd.snd.fst) (x0.snd.snd.snd.snd.fst) (x0.snd.snd.snd.snd.snd.fst) (x0.snd.snd.snd.snd.snd.snd.fst) (x0.snd.snd.snd.snd.snd.snd.snd.fst) ((20:Int)) (x0.snd.snd.snd.snd.snd.snd.snd.snd.snd.fst) ((0:Int)) ([]) ((0:Int)) ([]) ((0:Int)) ([]) ([]) ([]) ((0:Int)) (false) (false) ([]) (splitN x1) ((↑(splitN x1).length:Int)) ((0:Int))))):=by kernel_rfl
theorem olisted_g (x:DenL [AskT,.str]):olisted x=fON Tryz.prog (envS [(135,isKeyS),(132,splitS),(133,cutES),(134,hasSS),(136,numS)]) (shOf shlisted) Tryz.f89 [AskT,.str] [AskT,.bool] heads0 x:=rfl
theorem elisted_0 (n:Nat) (t2_0:Int) (t2_1:List UInt8) (t2_2:Int) (t2_3:List UInt8) (t2_4:Int) (t2_5:List UInt8) (t2_6:List UInt8) (t2_7:List UInt8) (t2_8:Int) (t2_9:Bool) (t4_0:Int) (t4_1:List UInt8) (t4_2:Int) (t4_3:List UInt8) (t4_4:Int) (t4_5:List UInt8) (t4_6:List UInt8) (t4_7:List UInt8) (t4_8:Int) (t4_9:Bool) (t5:Bool) (t6:List (Ty.Den .str)) (t21:List (Ty.Den .str)) (t22:Int) (t23:Int):hlisted_0 (n+1) t2_0 t2_1 t2_2 t2_3 t2_4 t2_5 t2_6 t2_7 t2_8 t2_9 t4_0 t4_1 t4_2 t4_3 t4_4 t4_5 t4_6 t4_7 t4_8 t4_9 t5 t6 t21 t22 t23=
 (bif decide (t23<t22) then
  (gd [decide (t23.toNat<t21.length),decide ((0:Int)≤t23),decide (t23<(↑t21.length:Int))] (bif (cutE (t21.getD t23.toNat Ty.str.dflt)).snd.snd then
   (gd [shortS (t21.getD t23.toNat Ty.str.dflt)&&[61]==[61]] (bif hasS t6 (cutE (t21.getD t23.toNat Ty.str.dflt)).fst then
    (gd [decide (t6.length≤1000)] (some ((t2_0,t2_1,t2_2,t2_3,t2_4,t2_5,t2_6,t2_7,t2_8,t2_9,()),false,())))
   else
    (gd [decide ((2*(t6.length+[(cutE (t21.getD t23.toNat Ty.str.dflt)).fst].length)+400)*16≤281474976710656),decide (t6.length≤1000)] (bif (cutE (t21.getD t23.toNat Ty.str.dflt)).snd.fst==[] then
     (bif (cutE (t21.getD t23.toNat Ty.str.dflt)).fst==wPre then
      (gd [decide (inK .i64 (t23+(1:Int)))] (hlisted_0 n (t2_0) (t2_1) (t2_2) (t2_3) (t2_4) (t2_5) ((cutE (t21.getD t23.toNat Ty.str.dflt)).snd.fst) (t2_7) (t2_8) (t2_9) (t4_0) (t4_1) (t4_2) (t4_3) (t4_4) (t4_5) (t4_6) (t4_7) (t4_8) (t4_9) (t5) (t6++[(cutE (t21.getD t23.toNat Ty.str.dflt)).fst]) (t21) (t22) (t23+(1:Int))))
     else
      (bif (cutE (t21.getD t23.toNat Ty.str.dflt)).fst==wAft then
       (gd [decide (inK .i64 (t23+(1:Int)))] (hlisted_0 n (t2_0) (t2_1) (t2_2) (t2_3) (t2_4) (t2_5) (t2_6) ((cutE (t21.getD t23.toNat Ty.str.dflt)).snd.fst) (t2_8) (t2_9) (t4_0) (t4_1) (t4_2) (t4_3) (t4_4) (t4_5) (t4_6) (t4_7) (t4_8) (t4_9) (t5) (t6++[(cutE (t21.getD t23.toNat Ty.str.dflt)).fst]) (t21) (t22) (t23+(1:Int))))
      else
       (bif (cutE (t21.getD t23.toNat Ty.str.dflt)).fst==wMax then
        (bif (numN (cutE (t21.getD t23.toNat Ty.str.dflt)).snd.fst ((2:Int)) ((1:Int)) ((20:Int))).snd then
         (gd [decide (inK .i64 (t23+(1:Int))),bndS (cutE (t21.getD t23.toNat Ty.str.dflt)).snd.fst] (hlisted_0 n (t2_0) (t2_1) (t2_2) (t2_3) (t2_4) (t2_5) (t2_6) (t2_7) ((numN (cutE (t21.getD t23.toNat Ty.str.dflt)).snd.fst ((2:Int)) ((1:Int)) ((20:Int))).fst) (t2_9) (t4_0) (t4_1) (t4_2) (t4_3) (t4_4) (t4_5) (t4_6) (t4_7) (t4_8) (t4_9) (t5) (t6++[(cutE (t21.getD t23.toNat Ty.str.dflt)).fst]) (t21) (t22) (t23+(1:Int))))
        else
         (gd [bndS (cutE (t21.getD t23.toNat Ty.str.dflt)).snd.fst] (some ((t2_0,t2_1,t2_2,t2_3,t2_4,t2_5,t2_6,t2_7,(numN (cutE (t21.getD t23.toNat Ty.str.dflt)).snd.fst ((2:Int)) ((1:Int)) ((20:Int))).fst,t2_9,()),false,()))))
       else
        (bif (cutE (t21.getD t23.toNat Ty.str.dflt)).fst==wVer then
         (bif (cutE (t21.getD t23.toNat Ty.str.dflt)).snd.fst==[49] then
          (gd [decide (inK .i64 (t23+(1:Int)))] (hlisted_0 n ((5:Int)) (t2_1) (t2_2) (t2_3) (t2_4) (t2_5) (t2_6) (t2_7) (t2_8) (t2_9) (t4_0) (t4_1) (t4_2) (t4_3) (t4_4) (t4_5) (t4_6) (t4_7) (t4_8) (t4_9) (t5) (t6++[(cutE (t21.getD t23.toNat Ty.str.dflt)).fst]) (t21) (t22) (t23+(1:Int))))
         else
          (some (((5:Int),t2_1,t2_2,t2_3,t2_4,t2_5,t2_6,t2_7,t2_8,t2_9,()),false,())))
        else
         (some ((t2_0,t2_1,t2_2,t2_3,t2_4,t2_5,t2_6,t2_7,t2_8,t2_9,()),false,()))))))
    else
     (bif isKey (cutE (t21.getD t23.toNat Ty.str.dflt)).snd.fst then
      (gd [bndS (cutE (t21.getD t23.toNat Ty.str.dflt)).snd.fst] (bif (cutE (t21.getD t23.toNat Ty.str.dflt)).fst==wPre then
       (gd [decide (inK .i64 (t23+(1:Int)))] (hlisted_0 n (t2_0) (t2_1) (t2_2) (t2_3) (t2_4) (t2_5) ((cutE (t21.getD t23.toNat Ty.str.dflt)).snd.fst) (t2_7) (t2_8) (t2_9) (t4_0) (t4_1) (t4_2) (t4_3) (t4_4) (t4_5) (t4_6) (t4_7) (t4_8) (t4_9) (t5) (t6++[(cutE (t21.getD t23.toNat Ty.str.dflt)).fst]) (t21) (t22) (t23+(1:Int))))
      else
       (bif (cutE (t21.getD t23.toNat Ty.str.dflt)).fst==wAft then
        (gd [decide (inK .i64 (t23+(1:Int)))] (hlisted_0 n (t2_0) (t2_1) (t2_2) (t2_3) (t2_4) (t2_5) (t2_6) ((cutE (t21.getD t23.toNat Ty.str.dflt)).snd.fst) (t2_8) (t2_9) (t4_0) (t4_1) (t4_2) (t4_3) (t4_4) (t4_5) (t4_6) (t4_7) (t4_8) (t4_9) (t5) (t6++[(cutE (t21.getD t23.toNat Ty.str.dflt)).fst]) (t21) (t22) (t23+(1:Int))))
       else
        (bif (cutE (t21.getD t23.toNat Ty.str.dflt)).fst==wMax then
         (bif (numN (cutE (t21.getD t23.toNat Ty.str.dflt)).snd.fst ((2:Int)) ((1:Int)) ((20:Int))).snd then
          (gd [decide (inK .i64 (t23+(1:Int))),bndS (cutE (t21.getD t23.toNat Ty.str.dflt)).snd.fst] (hlisted_0 n (t2_0) (t2_1) (t2_2) (t2_3) (t2_4) (t2_5) (t2_6) (t2_7) ((numN (cutE (t21.getD t23.toNat Ty.str.dflt)).snd.fst ((2:Int)) ((1:Int)) ((20:Int))).fst) (t2_9) (t4_0) (t4_1) (t4_2) (t4_3) (t4_4) (t4_5) (t4_6) (t4_7) (t4_8) (t4_9) (t5) (t6++[(cutE (t21.getD t23.toNat Ty.str.dflt)).fst]) (t21) (t22) (t23+(1:Int))))
         else
          (gd [bndS (cutE (t21.getD t23.toNat Ty.str.dflt)).snd.fst] (some ((t2_0,t2_1,t2_2,t2_3,t2_4,t2_5,t2_6,t2_7,(numN (cutE (t21.getD t23.toNat Ty.str.dflt)).snd.fst ((2:Int)) ((1:Int)) ((20:Int))).fst,t2_9,()),false,()))))
        else
         (bif (cutE (t21.getD t23.toNat Ty.str.dflt)).fst==wVer then
          (bif (cutE (t21.getD t23.toNat Ty.str.dflt)).snd.fst==[49] then
           (gd [decide (inK .i64 (t23+(1:Int)))] (hlisted_0 n ((5:Int)) (t2_1) (t2_2) (t2_3) (t2_4) (t2_5) (t2_6) (t2_7) (t2_8) (t2_9) (t4_0) (t4_1) (t4_2) (t4_3) (t4_4) (t4_5) (t4_6) (t4_7) (t4_8) (t4_9) (t5) (t6++[(cutE (t21.getD t23.toNat Ty.str.dflt)).fst]) (t21) (t22) (t23+(1:Int))))
          else
           (some (((5:Int),t2_1,t2_2,t2_3,t2_4,t2_5,t2_6,t2_7,t2_8,t2_9,()),false,())))
         else
          (some ((t2_0,t2_1,t2_2,t2_3,t2_4,t2_5,t2_6,t2_7,t2_8,t2_9,()),false,())))))))
     else
      (gd [bndS (cutE (t21.getD t23.toNat Ty.str.dflt)).snd.fst] (bif (cutE (t21.getD t23.toNat Ty.str.dflt)).fst==wPre then
       (some ((t2_0,t2_1,t2_2,t2_3,t2_4,t2_5,(cutE (t21.getD t23.toNat Ty.str.dflt)).snd.fst,t2_7,t2_8,t2_9,()),false,()))
      else
       (bif (cutE (t21.getD t23.toNat Ty.str.dflt)).fst==wAft then
        (some ((t2_0,t2_1,t2_2,t2_3,t2_4,t2_5,t2_6,(cutE (t21.getD t23.toNat Ty.str.dflt)).snd.fst,t2_8,t2_9,()),false,()))
       else
        (bif (cutE (t21.getD t23.toNat Ty.str.dflt)).fst==wMax then
         (bif (numN (cutE (t21.getD t23.toNat Ty.str.dflt)).snd.fst ((2:Int)) ((1:Int)) ((20:Int))).snd then
          (gd [decide (inK .i64 (t23+(1:Int))),bndS (cutE (t21.getD t23.toNat Ty.str.dflt)).snd.fst] (hlisted_0 n (t2_0) (t2_1) (t2_2) (t2_3) (t2_4) (t2_5) (t2_6) (t2_7) ((numN (cutE (t21.getD t23.toNat Ty.str.dflt)).snd.fst ((2:Int)) ((1:Int)) ((20:Int))).fst) (t2_9) (t4_0) (t4_1) (t4_2) (t4_3) (t4_4) (t4_5) (t4_6) (t4_7) (t4_8) (t4_9) (t5) (t6++[(cutE (t21.getD t23.toNat Ty.str.dflt)).fst]) (t21) (t22) (t23+(1:Int))))
         else
          (gd [bndS (cutE (t21.getD t23.toNat Ty.str.dflt)).snd.fst] (some ((t2_0,t2_1,t2_2,t2_3,t2_4,t2_5,t2_6,t2_7,(numN (cutE (t21.getD t23.toNat Ty.str.dflt)).snd.fst ((2:Int)) ((1:Int)) ((20:Int))).fst,t2_9,()),false,()))))
        else
         (bif (cutE (t21.getD t23.toNat Ty.str.dflt)).fst==wVer then
          (bif (cutE (t21.getD t23.toNat Ty.str.dflt)).snd.fst==[49] then
           (gd [decide (inK .i64 (t23+(1:Int)))] (hlisted_0 n ((5:Int)) (t2_1) (t2_2) (t2_3) (t2_4) (t2_5) (t2_6) (t2_7) (t2_8) (t2_9) (t4_0) (t4_1) (t4_2) (t4_3) (t4_4) (t4_5) (t4_6) (t4_7) (t4_8) (t4_9) (t5) (t6++[(cutE (t21.getD t23.toNat Ty.str.dflt)).fst]) (t21) (t22) (t23+(1:Int))))
          else
           (some (((5:Int),t2_1,t2_2,t2_3,t2_4,t2_5,t2_6,t2_7,t2_8,t2_9,()),false,())))
         else
          (some ((t2_0,t2_1,t2_2,t2_3,t2_4,t2_5,t2_6,t2_7,t2_8,t2_9,()),false,()))))))))))))
  else
   (gd [shortS (t21.getD t23.toNat Ty.str.dflt)&&[61]==[61]] (some ((t2_0,t2_1,t2_2,t2_3,t2_4,t2_5,t2_6,t2_7,t2_8,t2_9,()),false,())))))
 else
  (some ((t2_0,t2_1,t2_2,t2_3,t2_4,t2_5,t2_6,t2_7,t2_8,t2_9,()),true,()))):=by kernel_rfl
end Go.Proofs.YtldllfocpadkeaaGreatDoor
namespace Nice
open Go Go.Eng
def InvZ (i:Nat) (a b:Int):Prop:=0≤a∧0≤b∧(i<4→a<16^i∧b=0)∧(4≤i→a<65536∧b<16^(i-4))
theorem invZ_0:InvZ 0 0 0:=⟨by omega,by omega,fun _=>⟨by decide,rfl⟩,fun h=>absurd h (by decide)⟩
theorem pow16 (i:Nat):(16:Int)^(i+1)=16*16^i:=by rw[Int.pow_succ,Int.mul_comm]
theorem pow16_le {i:Nat} (h:i≤3):(16:Int)^i≤4096:=by
 have:i=0∨i=1∨i=2∨i=3:=by omega
 rcases this with rfl|rfl|rfl|rfl<;>decide
theorem invZ_a {i:Nat} {a b v:Int} (h:InvZ i a b) (hi:i<4) (h0:0≤v) (h1:v≤15):InvZ (i+1) (a*16+v) b∧a*16+v≤65535:=by
 obtain⟨q1,q2,q3,q4⟩:=h;obtain⟨q5,q6⟩:=q3 hi;have:=pow16 i;have:=pow16_le (show i≤3 by omega);refine⟨⟨by omega,by omega,fun h=>⟨by omega,q6⟩,fun h=> ?_⟩,by omega⟩;have e:i=3:=by omega
 subst e;refine⟨by omega,?_⟩;rw[q6];decide
theorem invZ_b {i:Nat} {a b v:Int} (h:InvZ i a b) (hi:4≤i) (hi8:i<8) (h0:0≤v) (h1:v≤15):InvZ (i+1) a (b*16+v)∧b*16+v≤65535:=by
 obtain⟨q1,q2,q3,q4⟩:=h;obtain⟨q5,q6⟩:=q4 hi;have e:i+1-4=(i-4)+1:=by omega
 have:=pow16 (i-4);have:=pow16_le (show i-4≤3 by omega);exact⟨⟨q1,by omega,fun h=>by omega,fun _=>⟨q5,by rw[e];omega⟩⟩,by omega⟩
theorem invZ_8 {a b:Int} (h:InvZ 8 a b):0≤a∧a<65536∧0≤b∧b<65536:=by
 obtain⟨q1,q2,q3,q4⟩:=h;obtain⟨q5,q6⟩:=q4 (by decide);exact⟨q1,q5,q2,q6⟩
theorem isHx_iff {c:UInt8}:isHx c=true↔(48≤c.toNat∧c.toNat≤57∨97≤c.toNat∧c.toNat≤102):=by
 unfold isHx;rw[decide_eq_true_iff]
theorem may_n {a b:Int} (h1:0≤a) (h2:a<65536) (h3:0≤b) (h4:b<65536):(finW (FloatKind.f64.nearest a)&&finW (FloatKind.f64.nearest b))=true∧mayW (FloatKind.f64.nearest a) (FloatKind.f64.nearest b)=(decide (a<65521)&&decide (b<65521)):=by
 obtain⟨m,rfl⟩:∃m:Nat,a=(m:Int):=⟨a.toNat,by omega⟩
 obtain⟨k,rfl⟩:∃k:Nat,b=(k:Int):=⟨b.toNat,by omega⟩
 obtain⟨w1,w2⟩:=whole_n (n:=m) (by omega);obtain⟨w3,w4⟩:=whole_n (n:=k) (by omega);refine⟨by rw[w1,w3];rfl,?_⟩;have e1:decide (m<65521)=decide ((m:Int)<65521):=by rw[decide_eq_decide];omega
 have e2:decide (k<65521)=decide ((k:Int)<65521):=by rw[decide_eq_decide];omega
 unfold mayW;rw[w2,w4,e1,e2]
end Nice
namespace Go.Proofs.YtldllfocpadkeaaGreatDoor
open Go Go.Eng Nice
set_option maxRecDepth 100000
theorem whole_nn (x a b:Nat) (h:finW x=true):owhole (x,a,b,())=some (wholeW x a b,()):=by
 rw[owhole_g,ewhole_g];unfold wholeW;cases fRel .geq .f64 x a<;>cases fRel .leq .f64 x b<;>cases fRel .eql .f64 x (truncW x)<;>simp[gd,h]
theorem gmay_nn (z:Nat×Nat) (h:(finW z.1&&finW z.2)=true):ogmay (z,())=some (mayW z.1 z.2,()):=by
 rw[Bool.and_eq_true] at h;rw[ogmay_g,egmay_g];unfold mayW;cases wholeW z.1 0 4679237813814689792<;>cases wholeW z.2 0 4679237813814689792<;>simp[gd,h.1,h.2]
def zOut (z:Option (Int×Int)):Option (Int×Int):=match z with
 |some z=>bif decide (z.1<65521)&&decide (z.2<65521) then some z else none
 |none=>none
theorem tdiv4_0 {i:Nat} (h:i<4):((i:Int)).tdiv 4=0:=by
 rw[Int.tdiv_eq_ediv_of_nonneg (by omega)];omega
theorem tdiv4_1 {i:Nat} (h:4≤i) (h8:i<8):((i:Int)).tdiv 4=1:=by
 rw[Int.tdiv_eq_ediv_of_nonneg (by omega)];omega
theorem c00 {α:Type} {a b:α}:(bif ((0:Int)==(0:Int)) then a else b)=a:=by
 have h:((0:Int)==(0:Int))=true:=by decide
 rw[h,cond_true]
theorem c10 {α:Type} {a b:α}:(bif ((1:Int)==(0:Int)) then a else b)=b:=by
 have h:((1:Int)==(0:Int))=false:=by decide
 rw[h,cond_false]
theorem g11 {α:Type} {l:List Bool} {r:Option α}:gd (((1:Int)==(1:Int))::l) r=gd l r:=by
 have h:((1:Int)==(1:Int))=true:=by decide
 exact gdB h
theorem gZ {α:Type} {r:Option α}:gd [] r=r:=by cases r<;>rw[gd_nil]
theorem gread_l (s:List UInt8) (t3:Bool) (rest:List UInt8):∀(done:List UInt8) (n:Nat) (a b:Int),s=done++rest→done.length+rest.length=8→InvZ done.length a b→rest.length<n→
  hgread_0 n s t3 a b 8 (done.length:Int)=match zOut (rdF rest done.length a b) with
   |some z=>some ((FloatKind.f64.nearest z.1,FloatKind.f64.nearest z.2),true,())
   |none=>some ((0,0),false,()):=by
 induction rest with
 |nil=>
  intro done n a b hs he hv hn;obtain⟨m,rfl⟩:∃m,n=m+1:=⟨n-1,by omega⟩
  simp only[List.length_nil,Nat.add_zero] at he;rw[he] at hv;obtain⟨i1,i2,i3,i4⟩:=invZ_8 hv;obtain⟨w1,w2⟩:=may_n i1 i2 i3 i4;rw[egread_0,cdF (by omega),w2];simp only[rdF,zOut];cases hh:decide (a<65521)&&decide (b<65521)
  ·simp only[cond_false];rw[gdB w1,gZ]
  ·simp only[cond_true];rw[gdB w1,gZ]
 |cons c rest ihr=>
  intro done n a b hs he hv hn;obtain⟨m,rfl⟩:∃m,n=m+1:=⟨n-1,by omega⟩
  simp only[List.length_cons] at he hn;have hc:=c.toNat_lt;have ih:=fun a' b'=>ihr (done++[c]) m a' b' (by rw[hs];simp) (by simp;omega)
  simp only[List.length_append,List.length_singleton,Int.natCast_add] at ih;have hg:s.getD done.length 0=c:=by rw[hs,getD_mid]
  have hl:s.length=8:=by rw[hs];simp;omega
  rw[egread_0];simp only[hl,Int.toNat_natCast,hg];rw[cdT (by omega)];have key:∀v:Int,0≤v→v≤15→isHx c=true→hx c=v→(done.length<4→hgread_0 m s t3 (a*16+v) b 8 ((done.length:Int)+1)=match zOut (rdF (c::rest) done.length a b) with
    |some z=>some ((FloatKind.f64.nearest z.1,FloatKind.f64.nearest z.2),true,())
    |none=>some ((0,0),false,()))∧(4≤done.length→hgread_0 m s t3 a (b*16+v) 8 ((done.length:Int)+1)=match zOut (rdF (c::rest) done.length a b) with
    |some z=>some ((FloatKind.f64.nearest z.1,FloatKind.f64.nearest z.2),true,())
    |none=>some ((0,0),false,())):=by
   intro v h0 h1 hx1 hx2;simp only[rdF,hx1,cond_true,hx2];constructor
   ·intro hi;rw[cdT hi];exact ih _ _ (invZ_a hv hi h0 h1).1 (by omega)
   ·intro hi;rw[cdF (by omega)];exact ih _ _ (invZ_b hv hi (by omega) h0 h1).1 (by omega)
  have bad:isHx c=false→(match zOut (rdF (c::rest) done.length a b) with
    |some z=>some ((FloatKind.f64.nearest z.1,FloatKind.f64.nearest z.2),true,())
    |none=>some ((0,0),false,()):Option (DenL [.cx,.bool]))=some ((0,0),false,()):=by
   intro hx1;simp only[rdF,hx1,cond_false,zOut]
  by_cases h1:48≤c.toNat
  ·by_cases h2:c.toNat≤57
   ·obtain⟨k1,k2⟩:=key ((c.toNat:Int)-48) (by omega) (by omega) (isHx_iff.2 (.inl ⟨h1,h2⟩)) (by unfold hx;rw[cdT h2]);by_cases hi:done.length<4
    ·have hb:=(invZ_a hv hi (v:=(c.toNat:Int)-48) (by omega) (by omega)).2;have h0:=hv.1;simp only[tdiv4_0 hi,c00];simp(disch:=omega) only[cdT,gdT,gZ,inK_i64];exact k1 hi
    ·have hb:=(invZ_b hv (by omega) (by omega) (v:=(c.toNat:Int)-48) (by omega) (by omega)).2;have h0:=hv.2.1;simp only[tdiv4_1 (show 4≤done.length by omega) (by omega),c10,g11];simp(disch:=omega) only[cdT,gdT,gZ,inK_i64,g11];exact k2 (by omega)
   ·by_cases h3:97≤c.toNat∧c.toNat≤102
    ·obtain⟨k1,k2⟩:=key ((c.toNat:Int)-87) (by omega) (by omega) (isHx_iff.2 (.inr h3)) (by unfold hx;rw[cdF h2]);by_cases hi:done.length<4
     ·have hb:=(invZ_a hv hi (v:=(c.toNat:Int)-87) (by omega) (by omega)).2;have h0:=hv.1;simp only[tdiv4_0 hi,c00];simp(disch:=omega) only[cdT,cdF,gdT,gZ,inK_i64];exact k1 hi
     ·have hb:=(invZ_b hv (by omega) (by omega) (v:=(c.toNat:Int)-87) (by omega) (by omega)).2;have h0:=hv.2.1;simp only[tdiv4_1 (show 4≤done.length by omega) (by omega),c10,g11];simp(disch:=omega) only[cdT,cdF,gdT,gZ,inK_i64,g11];exact k2 (by omega)
    ·rw[bad (by cases hb:isHx c;rfl;have:=isHx_iff.1 hb;omega)];by_cases h4:97≤c.toNat
     ·simp(disch:=omega) only[cdT,cdF,gdT,gZ,inK_i64]
     ·simp(disch:=omega) only[cdT,cdF,gdT,gZ,inK_i64]
  ·rw[bad (by cases hb:isHx c;rfl;have:=isHx_iff.1 hb;omega)];simp(disch:=omega) only[cdT,cdF,gdT,gZ,inK_i64]
theorem gread_n (s:List UInt8):ogread (s,())=some ((gRead s).1,(gRead s).2,()):=by
 rw[ogread_g,egread_g];unfold gRead rdZ;by_cases h:s.length=8
 ·have e:((s.length:Int) !=8)=false:=by rw[h];rfl
  have e2:((s.length:Int))=8:=by omega
  rw[e,cond_false,decide_eq_true h,cond_true,e2];have:=gread_l s false s [] heads0 0 0 rfl (by simpa using h) invZ_0 (by unfold heads0;omega);refine this.trans ?_;show _=some ((match zOut (rdF s 0 0 0) with
   |some z=>((FloatKind.f64.nearest z.1,FloatKind.f64.nearest z.2),true)
   |none=>((0,0),false)).1,(match zOut (rdF s 0 0 0) with
   |some z=>((FloatKind.f64.nearest z.1,FloatKind.f64.nearest z.2),true)
   |none=>((0,0),false)).2,())
  show(match zOut (rdF s 0 0 0) with
   |some z=>some ((FloatKind.f64.nearest z.1,FloatKind.f64.nearest z.2),true,())
   |none=>some ((0,0),false,()))=_
  cases zOut (rdF s 0 0 0)<;>rfl
 ·have e:((s.length:Int) !=8)=true:=by simp;omega
  rw[e,cond_true,decide_eq_false h];rfl
end Go.Proofs.YtldllfocpadkeaaGreatDoor
