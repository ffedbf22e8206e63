/-
  Part of the proof: QO PQ NiceG NiceR PReq PMay PLine. No condition.
-/
import Derived.Test.YtldllfocpadkeaaGreatDoorSym
import Derived.Test.YtldllfocpadkeaaGreatDoorG2
import Derived.Test.YtldllfocpadkeaaGreatDoorG1
import Derived.Lib.ItoaNum
import Derived.Lib.Join
namespace Go.Proofs.YtldllfocpadkeaaGreatDoor
open Go Go.Eng Nice
set_option maxRecDepth 1000000
abbrev shaOfGet:List (Nat×List (Nat×Sh)):=[]
noncomputable def oaOfGet (x:DenL [ReqT]):Option (DenL [AskT,.int .i64]):=fO Tryz.prog (envS [(131,hasPreS),(89,listedS),(90,keyedGS)]) (shOf shaOfGet) Tryz.f47 [ReqT] [AskT,.int .i64] x
theorem eaOfGet_g (N:Nat) (x1 x2:List UInt8) (x3:List (List UInt8×List UInt8×Unit)) (x4:List UInt8):fON Tryz.prog (envS [(131,hasPreS),(89,listedS),(90,keyedGS)]) (shOf shaOfGet) Tryz.f47 [ReqT] [AskT,.int .i64] N ((getW,x1,x2,x3,x4,()),())=
 (bif x1==oW then
  (bif (listedN zAsk x2).snd then
   (gd [shortS x2] (bif !x4==[] then
    (some (zAsk,(400:Int),()))
   else
    (some ((listedN zAsk x2).fst,(0:Int),()))))
  else
   (gd [shortS x2] (some (zAsk,(400:Int),()))))
 else
  (bif x1==ooW then
   (bif (listedN zAsk x2).snd then
    (gd [shortS x2] (bif !x4==[] then
     (some (zAsk,(400:Int),()))
    else
     (some ((listedN zAsk x2).fst,(0:Int),()))))
   else
    (gd [shortS x2] (some (zAsk,(400:Int),()))))
  else
   (bif !hasPre x1 ooW then
    (some (zAsk,(404:Int),()))
   else
    (gd [decide ((3:Int)≤(↑x1.length:Int))] (bif (keyedG ((0:Int),List.drop 3 x1,(0:Int),[],(0:Int),[],[],[],(0:Int),false,()) getW x2 x3 x4).snd then
     (gd [condsP x3&&(bndS x2&&bndS (List.drop 3 x1))] (bif !x4==[] then
      (some (zAsk,(400:Int),()))
     else
      (some ((keyedG ((0:Int),List.drop 3 x1,(0:Int),[],(0:Int),[],[],[],(0:Int),false,()) getW x2 x3 x4).fst,(0:Int),()))))
    else
     (gd [condsP x3&&(bndS x2&&bndS (List.drop 3 x1))] (some (zAsk,(400:Int),())))))))):=by kernel_rfl
theorem oaOfGet_g (x:DenL [ReqT]):oaOfGet x=fON Tryz.prog (envS [(131,hasPreS),(89,listedS),(90,keyedGS)]) (shOf shaOfGet) Tryz.f47 [ReqT] [AskT,.int .i64] heads0 x:=rfl
abbrev shaOfHead:List (Nat×List (Nat×Sh)):=[]
noncomputable def oaOfHead (x:DenL [ReqT]):Option (DenL [AskT,.int .i64]):=fO Tryz.prog (envS [(131,hasPreS),(89,listedS),(90,keyedGS)]) (shOf shaOfHead) Tryz.f47 [ReqT] [AskT,.int .i64] x
theorem eaOfHead_g (N:Nat) (x1 x2:List UInt8) (x3:List (List UInt8×List UInt8×Unit)) (x4:List UInt8):fON Tryz.prog (envS [(131,hasPreS),(89,listedS),(90,keyedGS)]) (shOf shaOfHead) Tryz.f47 [ReqT] [AskT,.int .i64] N ((headW,x1,x2,x3,x4,()),())=
 (bif x1==oW then
  (bif (listedN ((0:Int),[],(0:Int),[],(0:Int),[],[],[],(0:Int),true,()) x2).snd then
   (gd [shortS x2] (bif !x4==[] then
    (some (zAsk,(400:Int),()))
   else
    (some ((listedN ((0:Int),[],(0:Int),[],(0:Int),[],[],[],(0:Int),true,()) x2).fst,(0:Int),()))))
  else
   (gd [shortS x2] (some (zAsk,(400:Int),()))))
 else
  (bif x1==ooW then
   (bif (listedN ((0:Int),[],(0:Int),[],(0:Int),[],[],[],(0:Int),true,()) x2).snd then
    (gd [shortS x2] (bif !x4==[] then
     (some (zAsk,(400:Int),()))
    else
     (some ((listedN ((0:Int),[],(0:Int),[],(0:Int),[],[],[],(0:Int),true,()) x2).fst,(0:Int),()))))
   else
    (gd [shortS x2] (some (zAsk,(400:Int),()))))
  else
   (bif !hasPre x1 ooW then
    (some (zAsk,(404:Int),()))
   else
    (gd [decide ((3:Int)≤(↑x1.length:Int))] (bif (keyedG ((0:Int),List.drop 3 x1,(0:Int),[],(0:Int),[],[],[],(0:Int),true,()) headW x2 x3 x4).snd then
     (gd [condsP x3&&(bndS x2&&bndS (List.drop 3 x1))] (bif !x4==[] then
      (some (zAsk,(400:Int),()))
     else
      (some ((keyedG ((0:Int),List.drop 3 x1,(0:Int),[],(0:Int),[],[],[],(0:Int),true,()) headW x2 x3 x4).fst,(0:Int),()))))
    else
     (gd [condsP x3&&(bndS x2&&bndS (List.drop 3 x1))] (some (zAsk,(400:Int),())))))))):=by kernel_rfl
theorem oaOfHead_g (x:DenL [ReqT]):oaOfHead x=fON Tryz.prog (envS [(131,hasPreS),(89,listedS),(90,keyedGS)]) (shOf shaOfHead) Tryz.f47 [ReqT] [AskT,.int .i64] heads0 x:=rfl
abbrev shaOfPut:List (Nat×List (Nat×Sh)):=[]
noncomputable def oaOfPut (x:DenL [ReqT]):Option (DenL [AskT,.int .i64]):=fO Tryz.prog (envS [(131,hasPreS),(89,listedS),(90,keyedGS)]) (shOf shaOfPut) Tryz.f47 [ReqT] [AskT,.int .i64] x
theorem eaOfPut_g (N:Nat) (x1 x2:List UInt8) (x3:List (List UInt8×List UInt8×Unit)) (x4:List UInt8):fON Tryz.prog (envS [(131,hasPreS),(89,listedS),(90,keyedGS)]) (shOf shaOfPut) Tryz.f47 [ReqT] [AskT,.int .i64] N ((putW,x1,x2,x3,x4,()),())=
 (bif x1==oW then
  (some (zAsk,(405:Int),()))
 else
  (bif x1==ooW then
   (some (zAsk,(405:Int),()))
  else
   (bif !hasPre x1 ooW then
    (some (zAsk,(404:Int),()))
   else
    (gd [decide ((3:Int)≤(↑x1.length:Int))] (bif (keyedG ((0:Int),List.drop 3 x1,(0:Int),[],(0:Int),[],[],[],(0:Int),false,()) putW x2 x3 x4).snd then
     (gd [condsP x3&&(bndS x2&&bndS (List.drop 3 x1))] (bif !x4==[] then
      (some ((keyedG ((0:Int),List.drop 3 x1,(0:Int),[],(0:Int),[],[],[],(0:Int),false,()) putW x2 x3 x4).fst,(0:Int),()))
     else
      (some ((keyedG ((0:Int),List.drop 3 x1,(0:Int),[],(0:Int),[],[],[],(0:Int),false,()) putW x2 x3 x4).fst,(0:Int),()))))
    else
     (gd [condsP x3&&(bndS x2&&bndS (List.drop 3 x1))] (some (zAsk,(400:Int),())))))))):=by kernel_rfl
theorem oaOfPut_g (x:DenL [ReqT]):oaOfPut x=fON Tryz.prog (envS [(131,hasPreS),(89,listedS),(90,keyedGS)]) (shOf shaOfPut) Tryz.f47 [ReqT] [AskT,.int .i64] heads0 x:=rfl
abbrev shaOfDel:List (Nat×List (Nat×Sh)):=[]
noncomputable def oaOfDel (x:DenL [ReqT]):Option (DenL [AskT,.int .i64]):=fO Tryz.prog (envS [(131,hasPreS),(89,listedS),(90,keyedGS)]) (shOf shaOfDel) Tryz.f47 [ReqT] [AskT,.int .i64] x
theorem eaOfDel_g (N:Nat) (x1 x2:List UInt8) (x3:List (List UInt8×List UInt8×Unit)) (x4:List UInt8):fON Tryz.prog (envS [(131,hasPreS),(89,listedS),(90,keyedGS)]) (shOf shaOfDel) Tryz.f47 [ReqT] [AskT,.int .i64] N ((delW,x1,x2,x3,x4,()),())=
 (bif x1==oW then
  (some (zAsk,(405:Int),()))
 else
  (bif x1==ooW then
   (some (zAsk,(405:Int),()))
  else
   (bif !hasPre x1 ooW then
    (some (zAsk,(404:Int),()))
   else
    (gd [decide ((3:Int)≤(↑x1.length:Int))] (bif (keyedG ((0:Int),List.drop 3 x1,(0:Int),[],(0:Int),[],[],[],(0:Int),false,()) delW x2 x3 x4).snd then
     (gd [condsP x3&&(bndS x2&&bndS (List.drop 3 x1))] (bif !x4==[] then
      (some (zAsk,(400:Int),()))
     else
      (some ((keyedG ((0:Int),List.drop 3 x1,(0:Int),[],(0:Int),[],[],[],(0:Int),false,()) delW x2 x3 x4).fst,(0:Int),()))))
    else
     (gd [condsP x3&&(bndS x2&&bndS (List.drop 3 x1))] (some (zAsk,(400:Int),())))))))):=by kernel_rfl
theorem oaOfDel_g (x:DenL [ReqT]):oaOfDel x=fON Tryz.prog (envS [(131,hasPreS),(89,listedS),(90,keyedGS)]) (shOf shaOfDel) Tryz.f47 [ReqT] [AskT,.int .i64] heads0 x:=rfl
abbrev shaOfO:List (Nat×List (Nat×Sh)):=[]
noncomputable def oaOfO (x:DenL [ReqT]):Option (DenL [AskT,.int .i64]):=fO Tryz.prog (envS [(131,hasPreS),(89,noS [AskT,.str] [AskT,.bool]),(90,noS [AskT,ReqT] [AskT,.bool])]) (shOf shaOfO) Tryz.f47 [ReqT] [AskT,.int .i64] x
theorem eaOfO_g (N:Nat) (x0 x1 x2:List UInt8) (x3:List (List UInt8×List UInt8×Unit)) (x4:List UInt8):fON Tryz.prog (envS [(131,hasPreS),(89,noS [AskT,.str] [AskT,.bool]),(90,noS [AskT,ReqT] [AskT,.bool])]) (shOf shaOfO) Tryz.f47 [ReqT] [AskT,.int .i64] N ((x0,x1,x2,x3,x4,()),())=
 (bif x1==oW then
  (bif x0==getW then
   (gd [x0==headW] (none))
  else
   (bif x0==headW then
    (gd [x0==headW] (none))
   else
    (bif x0==headW then
     (some (zAsk,(405:Int),()))
    else
     (some (zAsk,(405:Int),())))))
 else
  (bif x1==ooW then
   (bif x0==getW then
    (gd [x0==headW] (none))
   else
    (bif x0==headW then
     (gd [x0==headW] (none))
    else
     (bif x0==headW then
      (some (zAsk,(405:Int),()))
     else
      (some (zAsk,(405:Int),())))))
  else
   (bif x0==getW then
    (bif x0==headW then
     (bif !hasPre x1 ooW then
      (some (zAsk,(404:Int),()))
     else
      (gd [decide ((3:Int)≤(↑x1.length:Int))] (none)))
    else
     (bif !hasPre x1 ooW then
      (some (zAsk,(404:Int),()))
     else
      (gd [decide ((3:Int)≤(↑x1.length:Int))] (none))))
   else
    (bif x0==headW then
     (bif x0==headW then
      (bif !hasPre x1 ooW then
       (some (zAsk,(404:Int),()))
      else
       (gd [decide ((3:Int)≤(↑x1.length:Int))] (none)))
     else
      (bif !hasPre x1 ooW then
       (some (zAsk,(404:Int),()))
      else
       (gd [decide ((3:Int)≤(↑x1.length:Int))] (none))))
    else
     (bif x0==headW then
      (bif !hasPre x1 ooW then
       (some (zAsk,(404:Int),()))
      else
       (bif !x0==putW then
        (bif !x0==delW then
         (some (zAsk,(405:Int),()))
        else
         (gd [decide ((3:Int)≤(↑x1.length:Int))] (none)))
       else
        (gd [decide ((3:Int)≤(↑x1.length:Int))] (none))))
     else
      (bif !hasPre x1 ooW then
       (some (zAsk,(404:Int),()))
      else
       (bif !x0==putW then
        (bif !x0==delW then
         (some (zAsk,(405:Int),()))
        else
         (gd [decide ((3:Int)≤(↑x1.length:Int))] (none)))
       else
        (gd [decide ((3:Int)≤(↑x1.length:Int))] (none))))))))):=by kernel_rfl
theorem oaOfO_g (x:DenL [ReqT]):oaOfO x=fON Tryz.prog (envS [(131,hasPreS),(89,noS [AskT,.str] [AskT,.bool]),(90,noS [AskT,ReqT] [AskT,.bool])]) (shOf shaOfO) Tryz.f47 [ReqT] [AskT,.int .i64] heads0 x:=rfl
end Go.Proofs.YtldllfocpadkeaaGreatDoor
namespace Nice
open Go Go.Eng
theorem hasPre_app (w r:List UInt8):hasPre (w++r) w=true:=by
 unfold hasPre;rw[Bool.and_eq_true,decide_eq_true_eq,List.take_left];exact⟨by simp,beq_self_eq_true w⟩
theorem hasB_app (c:UInt8) (a b:List UInt8):hasB c (a++b)=(hasB c a||hasB c b):=by unfold hasB;rw[List.any_append]
theorem upTo_app {c:UInt8}:∀{w r:List UInt8},hasB c w=false→upTo c (w++c::r)=w
 |[],r,_=>by simp[upTo]
 |b::w,r,h=>by
  simp only[hasB,List.any_cons,Bool.or_eq_false_iff] at h;simp only[List.cons_append,upTo,h.1,cond_false];rw[upTo_app h.2]
theorem cutE_eq (p:List UInt8):cutE p=bif hasB 61 p then(upTo 61 p,p.drop ((upTo 61 p).length+1),true) else(p,[],false):=cut1 61 p
theorem d21:(wAft==wPre)=false:=by decide
theorem d31:(wMax==wPre)=false:=by decide
theorem d32:(wMax==wAft)=false:=by decide
theorem d41:(wVer==wPre)=false:=by decide
theorem d42:(wVer==wAft)=false:=by decide
theorem d43:(wVer==wMax)=false:=by decide
theorem read_eq (s:List UInt8):(gRead s).2=(rRead s).2:=by
 unfold gRead rRead;cases rdZ s<;>rfl
theorem gRead_len {s:List UInt8} (h:(gRead s).2=true):s.length=8:=by
 unfold gRead rdZ at h;by_cases hl:s.length=8
 ·exact hl
 ·rw[decide_eq_false hl] at h;cases h
end Nice
namespace Nice
open Go Go.Eng
def kAsk (k:List UInt8) (b:Bool):AskD:=(0,k,0,[],0,[],[],[],0,b,())
def bAsk (b:Bool):AskD:=(0,[],0,[],0,[],[],[],0,b,())
def listOut (h:Bool) (q b:List UInt8):AskD×Int:=bif (listedN (bAsk h) q).2&&b==[] then((listedN (bAsk h) q).1,0) else(zAsk,400)
def keyOut (h:Bool) (m p q:List UInt8) (hs:HeadL) (b:List UInt8):AskD×Int:=
 bif (keyedG (kAsk (p.drop 3) h) m q hs b).2&&(m==putW||b==[]) then((keyedG (kAsk (p.drop 3) h) m q hs b).1,0) else(zAsk,400)
def ofN (r:ReqW):AskD×Int:=
 bif r.2.1==oW||r.2.1==ooW then(bif r.1==getW||r.1==headW then listOut (r.1==headW) r.2.2.1 r.2.2.2.2.1 else(zAsk,405))
 else bif hasPre r.2.1 ooW then(bif (r.1==getW||r.1==headW)||(r.1==putW||r.1==delW) then keyOut (r.1==headW) r.1 r.2.1 r.2.2.1 r.2.2.2.1 r.2.2.2.2.1 else(zAsk,405))
 else(zAsk,404)
def ofP (r:ReqW):Bool:=condsP r.2.2.2.1&&(shortS r.2.2.1&&bndS r.2.1)
noncomputable def ofS:PSpec:=⟨[ReqT],[AskT,.int .i64],fun x=>ofP x.1,fun x=>((ofN x.1).1,(ofN x.1).2,())⟩
end Nice
namespace Nice
open Go Go.Eng
def clW:List UInt8:=[67,111,110,116,101,110,116,45,76,101,110,103,116,104]
def verW1:List UInt8:=[118,101,114,115,105,111,110,115,61,49]
def zReq:ReqW:=([],[],[],[],[],())
def qPre (p:List UInt8):List (List UInt8):=bif p==[] then [] else [ePre++p]
def qAft (p:List UInt8):List (List UInt8):=bif p==[] then [] else [eAft++p]
def qMax (m:Int):List (List UInt8):=bif m==20 then [] else [eMax++Lib.itoa m]
def qKind (k:Int):List (List UInt8):=bif k==5 then [verW1] else []
def qParts (p a:List UInt8) (m k:Int):List (List UInt8):=qPre p++(qAft a++(qMax m++qKind k))
def queryN (a:AskD):List UInt8:=Lib.join (qParts a.2.2.2.2.2.2.1 a.2.2.2.2.2.2.2.1 a.2.2.2.2.2.2.2.2.1 a.1) [38]
def isL (k:Int):Bool:=k==4||k==5
def methR (k:Int) (b:Bool):List UInt8:=bif k==2 then putW else bif k==3 then delW else bif b then headW else getW
def pathR (k:Int) (key:List UInt8):List UInt8:=bif isL k then oW else ooW++key
def qryR (a:AskD):List UInt8:=bif isL a.1 then queryN a else bif a.2.2.1==0 then [] else vPre++Lib.itoa a.2.2.1
def hdC (c:Int) (t:List UInt8):HeadL:=bif c==1 then [(inmW,[42],())] else bif c==2 then [(imW,[34]++t++[34],())] else []
def hdB (b:List UInt8):HeadL:=bif b==[] then [] else [(clW,Lib.itoa (b.length:Int),())]
def reqR (a:AskD):ReqW:=(methR a.1 a.2.2.2.2.2.2.2.2.2.1,pathR a.1 a.2.1,qryR a,hdC a.2.2.2.2.1 a.2.2.2.2.2.1++hdB a.2.2.2.1,a.2.2.2.1,())
def eqA (a b:AskD):Bool:=a.1==b.1&&(a.2.1==b.2.1&&(a.2.2.1==b.2.2.1&&(a.2.2.2.1==b.2.2.2.1&&(a.2.2.2.2.1==b.2.2.2.2.1&&(a.2.2.2.2.2.1==b.2.2.2.2.2.1&&(a.2.2.2.2.2.2.1==b.2.2.2.2.2.2.1&&(a.2.2.2.2.2.2.2.1==b.2.2.2.2.2.2.2.1&&(a.2.2.2.2.2.2.2.2.1==b.2.2.2.2.2.2.2.2.1&&a.2.2.2.2.2.2.2.2.2.1==b.2.2.2.2.2.2.2.2.2.1))))))))
theorem eqA_iff {a b:AskD}:eqA a b=true↔a=b:=by
 obtain⟨a0,a1,a2,a3,a4,a5,a6,a7,a8,a9,⟨⟩⟩:=a;obtain⟨b0,b1,b2,b3,b4,b5,b6,b7,b8,b9,⟨⟩⟩:=b;simp[eqA]
def outR (a:AskD) (r:ReqW):ReqW×Bool:=bif (ofN r).2==0&&(eqA (ofN r).1 a&&decide ((a.2.2.2.1.length:Int)≤300)) then(r,true) else(zReq,false)
def requestN (a:AskD):ReqW×Bool:=outR a (reqR a)
def mayL (a:AskD):Bool:=a.2.1==[]&&(a.2.2.1==0&&(a.2.2.2.1==[]&&(a.2.2.2.2.1==0&&(a.2.2.2.2.2.1==[]&&(keyB a.2.2.2.2.2.2.1&&(keyB a.2.2.2.2.2.2.2.1&&(decide (1≤a.2.2.2.2.2.2.2.2.1)&&decide (a.2.2.2.2.2.2.2.2.1≤20))))))))
def mayC (a:AskD):Bool:=a.2.2.2.2.2.2.1==[]&&(a.2.2.2.2.2.2.2.1==[]&&(a.2.2.2.2.2.2.2.2.1==0&&(isKey a.2.1&&(decide (0≤a.2.2.1)&&decide (a.2.2.1≤1099511627776)))))
def mayG (a:AskD):Bool:=a.2.2.2.1==[]&&(a.2.2.2.2.1==0&&a.2.2.2.2.2.1==[])
def mayP (a:AskD):Bool:=decide ((a.2.2.2.1.length:Int)≤300)&&(a.2.2.1==0&&(!a.2.2.2.2.2.2.2.2.2.1&&(decide (0≤a.2.2.2.2.1)&&(decide (a.2.2.2.2.1≤2)&&(bif a.2.2.2.2.1==2 then(rRead a.2.2.2.2.2.1).2 else a.2.2.2.2.2.1==[])))))
def mayN (a:AskD):Bool:=bif isL a.1 then mayL a else mayC a&&(bif a.1==1 then mayG a else bif a.1==3 then mayG a&& !a.2.2.2.2.2.2.2.2.2.1 else bif a.1==2 then mayP a else false)
end Nice
namespace Nice
open Go Go.Eng
def i64P (n:Int):Bool:=decide (-9223372036854775808≤n)&&decide (n≤9223372036854775807)
def fmtN (n:Int):List UInt8:=Lib.itoa n
def joinN (l:List (List UInt8)) (s:List UInt8):List UInt8:=Lib.join l s
def joinP (l:List (List UInt8)) (s:List UInt8):Bool:=decide (l.length≤140737488355328)&&decide ((Lib.join l s).length≤140737488355328)
def sh1 (s:List UInt8):Bool:=decide (s.length≤1000)
def qryP (a:AskD):Bool:=sh1 a.2.2.2.2.2.2.1&&(sh1 a.2.2.2.2.2.2.2.1&&i64P a.2.2.2.2.2.2.2.2.1)
def askP (a:AskD):Bool:=(sh1 a.2.1&&(sh1 a.2.2.2.1&&(sh1 a.2.2.2.2.2.1&&i64P a.2.2.1)))&&qryP a
noncomputable def itoaS:PSpec:=⟨[.int .i64],[.str],fun x=>i64P x.1,fun x=>(fmtN x.1,())⟩
noncomputable def fmtS:PSpec:=⟨[.int .i64,.int .i64],[.str],fun x=>i64P x.1&&x.2.1==(10:Int),fun x=>(fmtN x.1,())⟩
noncomputable def joinS:PSpec:=⟨[.slice .str,.str],[.str],fun x=>joinP x.1 x.2.1,fun x=>(joinN x.1 x.2.1,())⟩
noncomputable def queryS:PSpec:=⟨[AskT],[.str],fun x=>qryP x.1,fun x=>(queryN x.1,())⟩
noncomputable def requestS:PSpec:=⟨[AskT],[ReqT,.bool],fun x=>askP x.1,fun x=>((requestN x.1).1,(requestN x.1).2,())⟩
noncomputable def amayS:PSpec:=⟨[AskT],[.bool],fun x=>askP x.1,fun x=>((requestN x.1).2,())⟩
noncomputable def mayDS:PSpec:=⟨[AskT],[.bool],fun x=>askP x.1,fun x=>(mayN x.1,())⟩
end Nice
namespace Nice
open Go Go.Eng
theorem numV_snoc (s:List UInt8) (c:UInt8):numV (s++[c])=numV s*10+(c.toNat-48):=by
 unfold numV;rw[List.foldl_append];rfl
theorem allDig_snoc (s:List UInt8) (c:UInt8):allDig (s++[c])=(allDig s&&isDig c):=by
 unfold allDig;rw[List.all_append];simp
theorem digOf {k:Nat} (h:k<10):(UInt8.ofNat (48+k)).toNat=48+k:=by
 rw[UInt8.toNat_ofNat'];omega
theorem isDig_of {k:Nat} (h:k<10):isDig (UInt8.ofNat (48+k))=true:=by
 rw[isDig_iff,digOf h];omega
theorem dec_ok (u:Nat):allDig (Lib.decDigits u)=true∧numV (Lib.decDigits u)=u∧Lib.decDigits u≠[]∧(1≤u→(Lib.decDigits u).getD 0 0≠48):=by
 induction u using Nat.strongRecOn with
 |_ u ih=>
  by_cases h:u<10
  ·rw[Lib.decDigits_one h];refine⟨?_,?_,by simp,fun h1 e=> ?_⟩
   ·show(isDig (UInt8.ofNat (48+u))&&true)=true;rw[isDig_of h];rfl
   ·show 0*10+((UInt8.ofNat (48+u)).toNat-48)=u;rw[digOf h];omega
   ·have:=congrArg UInt8.toNat (show UInt8.ofNat (48+u)=48 from e);rw[digOf h] at this;have e2:(48:UInt8).toNat=48:=rfl;omega
  ·obtain⟨i1,i2,i3,i4⟩:=ih (u/10) (by omega);rw[Lib.decDigits,dif_neg h];refine⟨?_,?_,by simp,fun _=> ?_⟩
   ·rw[allDig_snoc,i1,isDig_of (by omega)];rfl
   ·rw[numV_snoc,i2,digOf (by omega)];omega
   ·have:=i4 (by omega)
    revert this i3
    generalize Lib.decDigits (u/10)=d;intro i3 this;cases d with
    |nil=>exact absurd rfl i3
    |cons c r=>exact this
theorem itoa_nat (u:Nat):Lib.itoa (u:Int)=Lib.decDigits u:=by
 unfold Lib.itoa;rw[if_neg (by omega)];rfl
theorem intN_itoa {u:Nat} (h:u<9223372036854775808):intN (Lib.itoa (u:Int))=((u:Int),true):=by
 obtain⟨d1,d2,d3,_⟩:=dec_ok u;rw[itoa_nat,(intN_dig d1 d3).1 (by rw[d2];exact h),d2]
theorem numN_itoa {u:Nat} (most lo hi:Int) (h:u<9223372036854775808):numN (Lib.itoa (u:Int)) most lo hi=((u:Int),decide (((Lib.itoa (u:Int)).length:Int)≤most)&&(decide ((u:Int)≥lo)&&decide ((u:Int)≤hi))):=by
 unfold numN;rw[intN_itoa h];have:allDig (Lib.itoa (u:Int))=true:=by rw[itoa_nat];exact(dec_ok u).1
 rw[this,Bool.true_and,Bool.true_and]
theorem itoa_len2 {u:Nat} (h:u<100):(Lib.itoa (u:Int)).length≤2:=by
 rw[itoa_nat];by_cases h1:u<10
 ·rw[Lib.decDigits_one h1];exact Nat.le_succ 1
 ·rw[Lib.decDigits_two h1 h];exact Nat.le_refl 2
theorem ver_itoa {u:Nat} (h0:1≤u) (h1:u≤1099511627776):verN (vPre++Lib.itoa (u:Int))=((u:Int),true):=by
 have hc:cutPre (vPre++Lib.itoa (u:Int)) vPre=(Lib.itoa (u:Int),true):=by
  unfold cutPre;rw[hasPre_app,cond_true,List.drop_left]
 unfold verN;rw[hc];dsimp only;rw[numN_itoa _ _ _ (by omega)];have h48:((Lib.itoa (u:Int)).getD 0 0==48)=false:=by
  rw[itoa_nat];exact beq_eq_false_iff_ne.2 ((dec_ok u).2.2.2 h0)
 rw[h48,decide_eq_true (Int.le_refl _),decide_eq_true (show(u:Int)≥1 by omega),decide_eq_true (show(u:Int)≤1099511627776 by omega)];rfl
theorem max_itoa {u:Nat} (h0:1≤u) (h1:u≤20):numN (Lib.itoa (u:Int)) 2 1 20=((u:Int),true):=by
 have:=itoa_len2 (u:=u) (by omega);rw[numN_itoa _ _ _ (by omega),decide_eq_true (show((Lib.itoa (u:Int)).length:Int)≤2 by omega),decide_eq_true (show(u:Int)≥1 by omega),decide_eq_true (show(u:Int)≤20 by omega)];rfl
theorem split_app {x t:List UInt8} (h:hasB 38 x=false):splitN (x++38::t)=x::splitN t:=by
 have hy:hasB 38 (x++38::t)=true:=by rw[hasB_app];simp[hasB]
 have hu:upTo 38 (x++38::t)=x:=upTo_app h;unfold splitN;rw[split1_yes 38 _ hy,hu];congr 2;rw[show x++(38:UInt8)::t=(x++[38])++t by simp,show x.length+1=(x++[38]).length by simp,List.drop_left]
theorem split_join:∀(l:List (List UInt8)),l≠[]→(∀x,x∈l→hasB 38 x=false)→splitN (Lib.join l [38])=l
 |[],h,_=>absurd rfl h
 |[x],_,h=>by
  rw[Lib.join_one];exact split1_no 38 x (h x (by simp))
 |x::y::r,_,h=>by
  have e:Lib.join (x::y::r) [38]=x++38::Lib.join (y::r) [38]:=by
   rw[Lib.join_cons,Lib.join_cons];simp[Lib.joinTail]
  rw[e,split_app (h x (by simp)),split_join (y::r) (by simp) (fun z hz=>h z (by simp[hz]))]
theorem key_no {k:List UInt8} {c:UInt8} (hc:keyCh c=false) (h:isKey k=true):hasB c k=false:=by
 unfold isKey at h;rw[Bool.and_eq_true] at h;unfold hasB;rw[List.any_eq_false];intro x hx e;have:=List.all_eq_true.1 h.1 x hx;rw[beq_iff_eq.1 e,hc] at this;cases this
theorem keyB_no {k:List UInt8} {c:UInt8} (hc:keyCh c=false) (h:keyB k=true):hasB c k=false:=by
 unfold keyB at h;rw[Bool.or_eq_true,beq_iff_eq] at h;rcases h with rfl|h
 ·rfl
 ·exact key_no hc h
theorem dig_no {s:List UInt8} {c:UInt8} (hc:isDig c=false) (h:allDig s=true):hasB c s=false:=by
 unfold hasB;rw[List.any_eq_false];intro x hx e;have:=List.all_eq_true.1 h x hx;rw[beq_iff_eq.1 e,hc] at this;cases this
theorem cutE_app {w p:List UInt8} (hw:hasB 61 w=false):cutE ((w++[61])++p)=(w,p,true):=by
 have e:(w++[61])++p=w++(61:UInt8)::p:=by simp
 rw[cutE_eq];have hy:hasB 61 ((w++[61])++p)=true:=by rw[e,hasB_app];simp[hasB]
 have hu:upTo 61 ((w++[61])++p)=w:=by rw[e];exact upTo_app hw
 rw[hy,hu,cond_true];congr 2;rw[show w.length+1=(w++[61]).length by simp,List.drop_left]
theorem go_step {p n v:List UInt8} {r seen:List (List UInt8)} {a a':AskD} (hc:cutE p=(n,v,true)) (hs:hasS seen n=false) (hl:lset n v a=(a',true)):listedGo (p::r) seen a=listedGo r (seen++[n]) a':=by
 simp only[listedGo,hc,hs,hl,cond_true,cond_false]
theorem lset_pre (v:List UInt8) (a:AskD):lset wPre v a=(setPre a v,keyB v):=by
 unfold lset;rw[show(wPre==wPre)=true from beq_self_eq_true _];rfl
theorem lset_aft (v:List UInt8) (a:AskD):lset wAft v a=(setAft a v,keyB v):=by
 unfold lset;rw[d21,show(wAft==wAft)=true from beq_self_eq_true _];rfl
theorem lset_max (v:List UInt8) (a:AskD):lset wMax v a=(setMax a (numN v 2 1 20).1,(numN v 2 1 20).2):=by
 unfold lset;rw[d31,d32,show(wMax==wMax)=true from beq_self_eq_true _];rfl
theorem lset_ver (v:List UInt8) (a:AskD):lset wVer v a=(setKind a 5,v==[49]):=by
 unfold lset;rw[d41,d42,d43,show(wVer==wVer)=true from beq_self_eq_true _];rfl
def sIf (b:Bool) (w:List UInt8):List (List UInt8):=bif b then [] else [w]
theorem hasS_app (l r:List (List UInt8)) (x:List UInt8):hasS (l++r) x=(hasS l x||hasS r x):=by unfold hasS;rw[List.any_append]
theorem hasS_if (b:Bool) {w x:List UInt8} (h:(x==w)=false):hasS (sIf b w) x=false:=by
 cases b
 ·show((x==w)||false)=false;rw[h];rfl
 ·rfl
theorem go_pre {p:List UInt8} (hp:keyB p=true) (r seen:List (List UInt8)) (a:AskD) (he:a.2.2.2.2.2.2.1=[]) (hs:hasS seen wPre=false):
  listedGo (qPre p++r) seen a=listedGo r (seen++sIf (p==[]) wPre) (setPre a p):=by
 unfold qPre sIf;cases h:p==[]
 ·exact go_step (cutE_app (w:=wPre) (p:=p) (by decide)) hs (by rw[lset_pre,hp])
 ·rw[cond_true,cond_true,beq_iff_eq.1 h,List.append_nil];obtain⟨a0,a1,a2,a3,a4,a5,a6,a7,a8,a9,⟨⟩⟩:=a;dsimp only at he;subst he;rfl
theorem go_aft {p:List UInt8} (hp:keyB p=true) (r seen:List (List UInt8)) (a:AskD) (he:a.2.2.2.2.2.2.2.1=[]) (hs:hasS seen wAft=false):
  listedGo (qAft p++r) seen a=listedGo r (seen++sIf (p==[]) wAft) (setAft a p):=by
 unfold qAft sIf;cases h:p==[]
 ·exact go_step (cutE_app (w:=wAft) (p:=p) (by decide)) hs (by rw[lset_aft,hp])
 ·rw[cond_true,cond_true,beq_iff_eq.1 h,List.append_nil];obtain⟨a0,a1,a2,a3,a4,a5,a6,a7,a8,a9,⟨⟩⟩:=a;dsimp only at he;subst he;rfl
theorem go_max {m:Int} (h1:1≤m) (h2:m≤20) (r seen:List (List UInt8)) (a:AskD) (he:a.2.2.2.2.2.2.2.2.1=20) (hs:hasS seen wMax=false):
  listedGo (qMax m++r) seen a=listedGo r (seen++sIf (m==20) wMax) (setMax a m):=by
 unfold qMax sIf;cases h:m==20
 ·obtain⟨u,rfl⟩:∃u:Nat,m=(u:Int):=⟨m.toNat,by omega⟩
  exact go_step (cutE_app (w:=wMax) (p:=Lib.itoa (u:Int)) (by decide)) hs (by rw[lset_max,max_itoa (by omega) (by omega)])
 ·rw[cond_true,cond_true,beq_iff_eq.1 h,List.append_nil];obtain⟨a0,a1,a2,a3,a4,a5,a6,a7,a8,a9,⟨⟩⟩:=a;dsimp only at he;subst he;rfl
theorem go_kind {k:Int} (h1:isL k=true) (seen:List (List UInt8)) (a:AskD) (he:a.1=4) (hs:hasS seen wVer=false):
  listedGo (qKind k) seen a=(setKind a k,true):=by
 unfold qKind;cases h:k==5
 ·have:k=4:=by
   unfold isL at h1;rw[h,Bool.or_false] at h1;exact beq_iff_eq.1 h1
  subst this;obtain⟨a0,a1,a2,a3,a4,a5,a6,a7,a8,a9,⟨⟩⟩:=a;dsimp only at he;subst he;rfl
 ·rw[cond_true,beq_iff_eq.1 h,show([verW1]:List (List UInt8))=[wVer++[61]++[49]] from rfl];rw[go_step (r:=[]) (seen:=seen) (cutE_app (w:=wVer) (p:=[49]) (by decide)) hs (show lset wVer [49] a=(setKind a 5,true) by rw[lset_ver];rfl)];rfl
theorem mem_if {b:Bool} {x y:List UInt8} (h:x∈(bif b then [] else [y])):x=y:=by
 cases b
 ·exact List.mem_singleton.1 h
 ·cases h
theorem no_app {c:UInt8} {w p:List UInt8} (h1:hasB c w=false) (h2:hasB c p=false):hasB c (w++p)=false:=by rw[hasB_app,h1,h2];rfl
theorem listed_query {p f:List UInt8} {m k:Int} (b:Bool) (hp:keyB p=true) (hf:keyB f=true) (h1:1≤m) (h2:m≤20) (hk:isL k=true):
  listedN (bAsk b) (Lib.join (qParts p f m k) [38])=((k,[],0,[],0,[],p,f,m,b,()),true):=by
 have hgo:listedGo (qParts p f m k) [] (setMax (setKind (bAsk b) 4) 20)=((k,[],0,[],0,[],p,f,m,b,()),true):=by
  unfold qParts;rw[go_pre hp _ _ _ rfl rfl,go_aft hf _ _ _ rfl,go_max h1 h2 _ _ _ rfl,go_kind hk _ _ rfl]
  ·rfl
  ·rw[hasS_app,hasS_app,hasS_app,hasS_if _ d41,hasS_if _ d42,hasS_if _ d43];rfl
  ·rw[hasS_app,hasS_app,hasS_if _ d31,hasS_if _ d32];rfl
  ·rw[hasS_app,hasS_if _ d21];rfl
 have hno:∀x,x∈qParts p f m k→hasB 38 x=false:=by
  intro x hx;unfold qParts at hx;rw[List.mem_append,List.mem_append,List.mem_append] at hx;rcases hx with hx|hx|hx|hx
  ·rw[mem_if hx];exact no_app (by decide) (keyB_no (by decide) hp)
  ·rw[mem_if hx];exact no_app (by decide) (keyB_no (by decide) hf)
  ·rw[mem_if hx];obtain⟨u,rfl⟩:∃u:Nat,m=(u:Int):=⟨m.toNat,by omega⟩
   rw[itoa_nat];exact no_app (by decide) (dig_no (by decide) (dec_ok u).1)
  ·unfold qKind at hx;cases h:k==5
   ·rw[h] at hx;cases hx
   ·rw[h] at hx;rw[List.mem_singleton.1 hx];decide
 by_cases hl:qParts p f m k=[]
 ·rw[hl] at hgo⊢;rw[←hgo];rfl
 ·have hq:(Lib.join (qParts p f m k) [38]==[])=false:=by
   rw[beq_eq_false_iff_ne];intro e;have hs:=split_join _ hl hno;rw[e] at hs;have hs2:splitN []=[[]]:=split1_no 38 [] rfl;rw[hs2] at hs;have hm:([]:List UInt8)∈qParts p f m k:=by rw[←hs];simp
   unfold qParts at hm;rw[List.mem_append,List.mem_append,List.mem_append] at hm;rcases hm with hx|hx|hx|hx
   ·cases(mem_if hx)
   ·cases(mem_if hx)
   ·cases(mem_if hx)
   ·unfold qKind at hx;cases h:k==5
    ·rw[h] at hx;cases hx
    ·rw[h] at hx;cases(List.mem_singleton.1 hx)
  unfold listedN;rw[hq,cond_false,split_join _ hl hno];exact hgo
theorem hasSuf_app (w r:List UInt8):hasSuf (r++w) w=true:=by
 unfold hasSuf;rw[Bool.and_eq_true,decide_eq_true_eq,List.length_append,Nat.add_sub_cancel,List.drop_left];exact⟨by omega,beq_self_eq_true w⟩
theorem tagA_app (t:List UInt8):tagA ([34]++t++[34])=(t,(gRead t).2):=by
 have h1:cutPre ([34]++t++[34]) [34]=(t++[34],true):=by
  unfold cutPre;rw[List.append_assoc,hasPre_app,cond_true,List.drop_left]
 have h2:cutSuf (t++[34]) [34]=(t,true):=by
  unfold cutSuf;rw[hasSuf_app,cond_true,List.length_append,Nat.add_sub_cancel,List.take_left]
 unfold tagA;rw[h1];dsimp only;rw[h2];rfl
theorem low1:(lower inmW==lower inmW)=true:=by decide
theorem low2:(lower inmW==lower imW)=false:=by decide
theorem low3:(lower imW==lower inmW)=false:=by decide
theorem low4:(lower imW==lower imW)=true:=by decide
theorem low5:(lower clW==lower inmW)=false:=by decide
theorem low6:(lower clW==lower imW)=false:=by decide
theorem val_B1 (b:List UInt8):valueN (hdB b) inmW=([],false):=by
 unfold hdB;cases b==[]<;>simp[valueN,low5]
theorem val_B2 (b:List UInt8):valueN (hdB b) imW=([],false):=by
 unfold hdB;cases b==[]<;>simp[valueN,low6]
theorem conds_req {c:Int} {t:List UInt8} (b:List UInt8) (h0:0≤c) (h2:c≤2) (ht:(bif c==2 then(rRead t).2 else t==[])=true):condsN (hdC c t++hdB b)=(c,t,true):=by
 unfold hdC condsN;by_cases e1:c=1
 ·subst e1;have:t=[]:=beq_iff_eq.1 ht;subst this;simp[valueN,low1,low2,val_B2]
 by_cases e2:c=2
 ·subst e2;have ht:(rRead t).2=true:=ht;have hg:(gRead t).2=true:=by rw[read_eq];exact ht
  have hta:=tagA_app t;rw[hg] at hta;simp only[show((2:Int)==1)=false from rfl,show((2:Int)==2)=true from rfl,cond_true,cond_false,List.cons_append,List.nil_append,valueN,low3,low4,val_B1] at hta⊢;rw[hta]
 have e0:c=0:=by omega
 subst e0;have:t=[]:=beq_iff_eq.1 ht;subst this;simp[val_B1,val_B2]
theorem methGH (b:Bool):((bif b then headW else getW)==getW||(bif b then headW else getW)==headW)=true:=by cases b<;>decide
theorem methH (b:Bool):((bif b then headW else getW)==headW)=b:=by cases b<;>decide
theorem methP (b:Bool):((bif b then headW else getW)==putW)=false:=by cases b<;>decide
theorem methD (b:Bool):((bif b then headW else getW)==delW)=false:=by cases b<;>decide
theorem path_k {k:List UInt8} (h:isKey k=true):(ooW++k==oW||ooW++k==ooW)=false∧hasPre (ooW++k) ooW=true∧(ooW++k).drop 3=k:=by
 have hl:1≤k.length:=by
  unfold isKey at h;rw[Bool.and_eq_true,Bool.and_eq_true,decide_eq_true_eq] at h;exact h.2.1
 refine⟨?_,hasPre_app _ _,rfl⟩;rw[Bool.or_eq_false_iff,beq_eq_false_iff_ne,beq_eq_false_iff_ne];constructor
 ·intro e;have:=congrArg List.length e;rw[List.length_append] at this;have e3:ooW.length=3:=rfl;have e2:oW.length=2:=rfl;omega
 ·intro e;have:=congrArg List.length e;rw[List.length_append] at this;have e3:ooW.length=3:=rfl;omega
theorem ofN_req {a:AskD} (h:mayN a=true):ofN (reqR a)=(a,0)∧(a.2.2.2.1.length:Int)≤300:=by
 obtain⟨kd,k,v,b,c,t,p,f,m,br,⟨⟩⟩:=a;unfold mayN at h;dsimp only at h;cases hL:isL kd
 ·rw[hL,cond_false] at h;unfold mayC at h;simp only[Bool.and_eq_true,beq_iff_eq,decide_eq_true_eq] at h;obtain⟨⟨rfl,rfl,rfl,hk,hv0,hv1⟩,h⟩:=h;obtain⟨p1,p2,p3⟩:=path_k hk;have hver:∀kk:Int,kk=(kd:Int)→∀(b2:Bool),(bif (qryR (kd,k,v,b,c,t,[],[],0,br,()))==[] then(setKV (kAsk k b2) kk 0,true) else(setKV (kAsk k b2) kk (verN (qryR (kd,k,v,b,c,t,[],[],0,br,()))).1,(verN (qryR (kd,k,v,b,c,t,[],[],0,br,()))).2))=(setKV (kAsk k b2) kk v,true):=by
   intro kk _ b2;have e:qryR (kd,k,v,b,c,t,[],[],0,br,())=bif v==0 then [] else vPre++Lib.itoa v:=by
    unfold qryR;dsimp only;rw[hL];rfl
   rw[e];cases hv:v==0
   ·have hv:v≠0:=beq_eq_false_iff_ne.1 hv;obtain⟨u,rfl⟩:∃u:Nat,v=(u:Int):=⟨v.toNat,by omega⟩
    rw[cond_false,ver_itoa (by omega) (by omega)];have:(vPre++Lib.itoa (u:Int)==[])=false:=beq_eq_false_iff_ne.2 (by intro e;cases e);rw[this];rfl
   ·have hv:v=0:=beq_iff_eq.1 hv;subst hv;rfl
  by_cases k1:kd=1
  ·subst k1;rw[show((1:Int)==1)=true from rfl,cond_true] at h;unfold mayG at h;simp only[Bool.and_eq_true,beq_iff_eq] at h;obtain⟨rfl,rfl,rfl⟩:=h;refine⟨?_,by simp⟩;have:=hver 1 rfl br;unfold reqR ofN keyOut keyedG;dsimp only[pathR];rw[hL,cond_false,p1,cond_false,p2,cond_true,p3];have em:methR 1 br=bif br then headW else getW:=rfl
   rw[em,methGH,Bool.true_or,cond_true,methH,methP];have ek:(kAsk k br).2.1=k:=rfl;rw[ek,hk,cond_true,cond_false,methD,cond_false];have ev:(kAsk k br).2.2.1=0:=rfl;rw[ev,this];rfl
  rw[beq_eq_false_iff_ne.2 k1,cond_false] at h;by_cases k3:kd=3
  ·subst k3;rw[show((3:Int)==3)=true from rfl,cond_true,Bool.and_eq_true] at h;obtain⟨h,hbr⟩:=h;have hbr:br=false:=by cases br;rfl;cases hbr
   subst hbr;unfold mayG at h;simp only[Bool.and_eq_true,beq_iff_eq] at h;obtain⟨rfl,rfl,rfl⟩:=h;refine⟨?_,by simp⟩;have:=hver 3 rfl false;unfold reqR ofN keyOut keyedG;dsimp only[pathR];rw[hL,cond_false,p1,cond_false,p2,cond_true,p3];have em:methR 3 false=delW:=rfl;rw[em];have d0:(delW==getW||delW==headW||(delW==putW||delW==delW))=true:=by decide
   have d1:(delW==headW)=false:=by decide
   have d2:(delW==putW)=false:=by decide
   have d3:(delW==delW)=true:=by decide
   rw[d0,cond_true,d1,d2];have ek:(kAsk k false).2.1=k:=rfl;rw[ek,hk,cond_true,cond_false,d3,cond_true];have ev:(kAsk k false).2.2.1=0:=rfl;rw[ev,this];rfl
  rw[beq_eq_false_iff_ne.2 k3,cond_false] at h;by_cases k2:kd=2
  ·subst k2;rw[show((2:Int)==2)=true from rfl,cond_true] at h;unfold mayP at h;simp only[Bool.and_eq_true,beq_iff_eq,decide_eq_true_eq] at h;obtain⟨hb,rfl,hbr,hc0,hc2,ht⟩:=h;have hbr:br=false:=by cases br;rfl;cases hbr
   subst hbr;refine⟨?_,hb⟩;have hcn:=conds_req b hc0 hc2 ht;unfold reqR ofN keyOut keyedG;dsimp only[pathR];rw[hL,cond_false,p1,cond_false,p2,cond_true,p3];have em:methR 2 false=putW:=rfl;rw[em];have d0:(putW==getW||putW==headW||(putW==putW||putW==delW))=true:=by decide
   have d1:(putW==headW)=false:=by decide
   have d2:(putW==putW)=true:=by decide
   rw[d0,cond_true,d1,d2];have ek:(kAsk k false).2.1=k:=rfl;rw[ek,hk,cond_true,cond_true,hcn];have eq:qryR (2,k,0,b,c,t,[],[],0,false,())=[]:=rfl;rw[eq];rfl
  rw[beq_eq_false_iff_ne.2 k2,cond_false] at h;cases h
 ·rw[hL,cond_true] at h;unfold mayL at h;simp only[Bool.and_eq_true,beq_iff_eq,decide_eq_true_eq] at h;obtain⟨rfl,rfl,rfl,rfl,rfl,hp,hf,hm1,hm2⟩:=h;refine⟨?_,by simp⟩;have hq:=listed_query br hp hf hm1 hm2 hL;have eq:qryR (kd,[],0,[],0,[],p,f,m,br,())=Lib.join (qParts p f m kd) [38]:=by
   unfold qryR;dsimp only;rw[hL];rfl
  have em:methR kd br=bif br then headW else getW:=by
   unfold isL at hL;rw[Bool.or_eq_true,beq_iff_eq,beq_iff_eq] at hL;rcases hL with rfl|rfl<;>rfl
  unfold reqR ofN listOut;dsimp only[pathR];rw[hL,cond_true,em,eq];have d0:(oW==oW||oW==ooW)=true:=by decide
  rw[d0,cond_true,methGH,cond_true,methH,hq];rfl
theorem nDig_le:∀(k u:Nat),u<10^(k+1)→Lib.nDigits u≤k+1
 |0,u,h=>by rw[Lib.nDigits_small (by simpa using h)];exact Nat.le_refl _
 |k+1,u,h=>by
  by_cases h1:u<10
  ·rw[Lib.nDigits_small h1];omega
  ·rw[Lib.nDigits_big h1];have:=nDig_le k (u/10) (by rw[Nat.pow_succ] at h;omega);omega
theorem itoa_len {k u:Nat} (h:u<10^(k+1)):(Lib.itoa (u:Int)).length≤k+1:=by
 rw[itoa_nat,Lib.decDigits_length];exact nDig_le k u h
theorem qParts_mem {p f:List UInt8} {m k:Int} {x:List UInt8} (hx:x∈qParts p f m k):x=ePre++p∨x=eAft++f∨(x=eMax++Lib.itoa m)∨x=verW1:=by
 unfold qParts at hx;rw[List.mem_append,List.mem_append,List.mem_append] at hx;rcases hx with hx|hx|hx|hx
 ·exact .inl (mem_if hx)
 ·exact .inr (.inl (mem_if hx))
 ·exact .inr (.inr (.inl (mem_if hx)))
 ·unfold qKind at hx;cases h:k==5
  ·rw[h] at hx;cases hx
  ·rw[h] at hx;exact .inr (.inr (.inr (List.mem_singleton.1 hx)))
end Nice
namespace Nice
open Go Go.Eng
def linv (a:AskD):Prop:=isL a.1=true∧mayL a=true
theorem lset_inv {n v:List UInt8} {a:AskD} (h:linv a) (ok:(lset n v a).2=true):linv (lset n v a).1:=by
 obtain⟨kd,k,w,b,c,t,p,f,m,br,⟨⟩⟩:=a;obtain⟨h1,h2⟩:=h;unfold mayL at h2;simp only[Bool.and_eq_true,beq_iff_eq,decide_eq_true_eq] at h1 h2;obtain⟨rfl,rfl,rfl,rfl,rfl,hp,hf,hm1,hm2⟩:=h2;unfold lset at ok⊢;cases e1:n==wPre
 ·rw[e1,cond_false] at ok;rw[cond_false];cases e2:n==wAft
  ·rw[e2,cond_false] at ok;rw[cond_false];cases e3:n==wMax
   ·rw[e3,cond_false] at ok;rw[cond_false];cases e4:n==wVer
    ·rw[e4,cond_false] at ok;cases ok
    ·rw[cond_true];refine⟨rfl,?_⟩;unfold mayL setKind;simp[hp,hf,hm1,hm2]
   ·rw[e3,cond_true] at ok;rw[cond_true];refine⟨h1,?_⟩;have hb:1≤(numN v 2 1 20).1∧(numN v 2 1 20).1≤20:=by
     unfold numN at ok⊢;simp only[Bool.and_eq_true,decide_eq_true_eq] at ok;exact⟨ok.2.2.2.1,ok.2.2.2.2⟩
    unfold mayL setMax;simp[hp,hf,hb.1,hb.2]
  ·rw[e2,cond_true] at ok;rw[cond_true];refine⟨h1,?_⟩;unfold mayL setAft;have ok:keyB v=true:=ok;simp[hp,ok,hm1,hm2]
 ·rw[e1,cond_true] at ok;rw[cond_true];refine⟨h1,?_⟩;unfold mayL setPre;have ok:keyB v=true:=ok;simp[ok,hf,hm1,hm2]
theorem go_inv:∀(l seen:List (List UInt8)) (a:AskD),linv a→(listedGo l seen a).2=true→linv (listedGo l seen a).1
 |[],_,a,h,_=>h
 |p::r,seen,a,h,ok=>by
  simp only[listedGo] at ok⊢;cases e1:(cutE p).2.2
  ·rw[e1] at ok;cases ok
  ·rw[e1,cond_true] at ok;rw[cond_true];cases e2:hasS seen (cutE p).1
   ·rw[e2,cond_false] at ok;rw[cond_false];cases e3:(lset (cutE p).1 (cutE p).2.1 a).2
    ·rw[e3] at ok;cases ok
    ·rw[e3,cond_true] at ok;rw[cond_true];exact go_inv r _ _ (lset_inv h e3) ok
   ·rw[e2] at ok;cases ok
theorem listed_inv (b:Bool) (q:List UInt8) (ok:(listedN (bAsk b) q).2=true):linv (listedN (bAsk b) q).1:=by
 have h0:linv (setMax (setKind (bAsk b) 4) 20):=⟨rfl,rfl⟩
 unfold listedN at ok⊢;cases e:q==[]
 ·rw[e,cond_false] at ok;rw[cond_false];exact go_inv _ _ _ h0 ok
 ·rw[cond_true];exact h0
theorem condsN_may (hs:HeadL) (h:(condsN hs).2.2=true):0≤(condsN hs).1∧(condsN hs).1≤2∧(bif (condsN hs).1==2 then(rRead (condsN hs).2.1).2 else(condsN hs).2.1==[])=true:=by
 unfold condsN at h⊢;cases e1:(valueN hs inmW).2
 ·rw[e1,cond_false] at h;rw[cond_false];cases e2:(valueN hs imW).2
  ·exact⟨show(0:Int)≤0 by decide,show(0:Int)≤2 by decide,rfl⟩
  ·rw[e2,cond_true] at h;rw[cond_true];refine⟨show(0:Int)≤2 by decide,show(2:Int)≤2 by decide,?_⟩;show(rRead (tagA (valueN hs imW).1).1).2=true;rw[←read_eq];have h:(tagA (valueN hs imW).1).2=true:=h;unfold tagA at h⊢;simp only[Bool.and_eq_true] at h;exact h.2.2
 ·rw[e1,cond_true] at h;rw[cond_true];cases e2:(valueN hs imW).2
  ·exact⟨show(0:Int)≤1 by decide,show(1:Int)≤2 by decide,rfl⟩
  ·rw[e2] at h;cases h
theorem verN_may (q:List UInt8) (h:(verN q).2=true):0≤(verN q).1∧(verN q).1≤1099511627776:=by
 unfold verN numN at h⊢;simp only[Bool.and_eq_true,decide_eq_true_eq] at h⊢;obtain⟨⟨_,_,_,h1,h2⟩,_⟩:=h;exact⟨by omega,h2⟩
theorem ofN_may {r:ReqW} (h:(ofN r).2=0) (hb:((ofN r).1.2.2.2.1.length:Int)≤300):mayN (ofN r).1=true:=by
 obtain⟨m,p,q,hs,b,⟨⟩⟩:=r;unfold ofN at h hb⊢;dsimp only at h hb⊢;cases e1:p==oW||p==ooW
 ·rw[e1,cond_false] at h hb;rw[cond_false];cases e2:hasPre p ooW
  ·rw[e2] at h;cases h
  ·rw[e2,cond_true] at h hb;rw[cond_true];cases e3:(m==getW||m==headW)||(m==putW||m==delW)
   ·rw[e3] at h;cases h
   ·rw[e3,cond_true] at h hb;rw[cond_true];unfold keyOut at h hb⊢;cases e4:(keyedG (kAsk (p.drop 3) (m==headW)) m q hs b).2&&(m==putW||b==[])
    ·rw[e4] at h;cases h
    ·rw[e4,cond_true] at hb;rw[cond_true];dsimp only at hb⊢;rw[Bool.and_eq_true] at e4;obtain⟨ok,ob⟩:=e4;unfold keyedG at ok hb⊢;have ek:∀b2,(kAsk (p.drop 3) b2).2.1=p.drop 3:=fun _=>rfl
     rw[ek] at ok hb⊢;cases hk:isKey (p.drop 3)
     ·rw[hk] at ok;cases ok
     ·rw[hk,cond_true] at ok hb;rw[cond_true];cases hp:m==putW
      ·rw[hp,cond_false] at ok hb;rw[hp,Bool.false_or] at ob;rw[cond_false];have hm3:(bif m==delW then(3:Int) else 1)=1∨((bif m==delW then(3:Int) else 1)=3∧(m==headW)=false):=by
        cases hd:m==delW
        ·exact .inl rfl
        ·rw[beq_iff_eq.1 hd];exact .inr ⟨rfl,by decide⟩
       have fin:∀v:Int,0≤v→v≤1099511627776→mayN (setKV (kAsk (p.drop 3) (m==headW)) (bif m==delW then 3 else 1) v)=true:=by
        intro v h0 h1;generalize (bif m==delW then(3:Int) else 1)=kk at hm3;generalize (m==headW)=hh at hm3⊢;rcases hm3 with rfl|⟨rfl,rfl⟩
        ·unfold mayN mayC mayG setKV kAsk;simp[isL,hk,h0,h1]
        ·unfold mayN mayC mayG setKV kAsk;simp[isL,hk,h0,h1]
       cases hq:q==[]
       ·rw[hq,cond_false] at ok;rw[cond_false];obtain⟨v0,v1⟩:=verN_may q ok;exact fin _ v0 v1
       ·rw[cond_true];exact fin _ (by show(0:Int)≤0;omega) (by show(0:Int)≤_;decide)
      ·rw[hp,cond_true] at ok hb;rw[cond_true];have hm:=beq_iff_eq.1 hp;subst hm;rw[show(putW==headW)=false from by decide] at hb⊢;have hb:(b.length:Int)≤300:=hb;have ok:((condsN hs).2.2&&q==[])=true:=ok;rw[Bool.and_eq_true] at ok;obtain⟨c0,c2,ct⟩:=condsN_may hs ok.1;unfold mayN mayC mayP setPut kAsk;simp only[]
       generalize (condsN hs).1=c at c0 c2 ct⊢;generalize (condsN hs).2.1=t at ct⊢;rw[ct,hk,decide_eq_true hb,decide_eq_true c0,decide_eq_true c2];rfl
 ·rw[e1,cond_true] at h hb;rw[cond_true];cases e2:m==getW||m==headW
  ·rw[e2] at h;cases h
  ·rw[e2,cond_true] at h hb;rw[cond_true];unfold listOut at h hb⊢;cases e3:(listedN (bAsk (m==headW)) q).2&&b==[]
   ·rw[e3] at h;cases h
   ·rw[cond_true];rw[Bool.and_eq_true] at e3;obtain⟨l1,l2⟩:=listed_inv (m==headW) q e3.1;unfold mayN;dsimp only;rw[l1,cond_true,l2]
theorem request_ok (a:AskD):requestN a=bif mayN a then(reqR a,true) else(zReq,false):=by
 unfold requestN outR;cases h:mayN a
 ·rw[cond_false];cases h2:(ofN (reqR a)).2==0&&(eqA (ofN (reqR a)).1 a&&decide ((a.2.2.2.1.length:Int)≤300))
  ·rfl
  ·rw[Bool.and_eq_true,Bool.and_eq_true,beq_iff_eq,eqA_iff,decide_eq_true_eq] at h2;obtain⟨z,e,hb⟩:=h2;have:=ofN_may (r:=reqR a) z (by rw[e];exact hb);rw[e,h] at this;cases this
 ·obtain⟨e,hb⟩:=ofN_req h;rw[e,decide_eq_true hb];rw[show eqA a a=true from eqA_iff.2 rfl];rfl
end Nice
namespace Nice
open Go Go.Eng
theorem itoa_dig (u:Nat):∀c,c∈Lib.itoa (u:Int)→48≤c.toNat∧c.toNat≤57:=by
 intro c hc;rw[itoa_nat] at hc;exact isDig_iff.1 (List.all_eq_true.1 (dec_ok u).1 c hc)
theorem read_hex {t:List UInt8} (h:(rRead t).2=true):t.length=8∧∀c,c∈t→33≤c.toNat∧c.toNat≤126:=by
 have hl:t.length=8:=by rw[←read_eq] at h;exact gRead_len h
 refine⟨hl,?_⟩;have key:∀(s:List UInt8) (i:Nat) (a b:Int),rdF s i a b≠none→∀c,c∈s→isHx c=true:=by
  intro s
  induction s with
  |nil=>intro i a b _ c hc;cases hc
  |cons d r ih=>
   intro i a b hn c hc;unfold rdF at hn;cases hd:isHx d
   ·rw[hd] at hn;exact absurd rfl hn
   ·rw[hd,cond_true] at hn;rcases List.mem_cons.1 hc with rfl|hc
    ·exact hd
    ·cases h4:decide (i<4)
     ·rw[h4,cond_false] at hn;exact ih _ _ _ hn c hc
     ·rw[h4,cond_true] at hn;exact ih _ _ _ hn c hc
 have hne:rdF t 0 0 0≠none:=by
  intro e;unfold rRead rdZ at h;rw[decide_eq_true hl,e] at h;cases h
 intro c hc;have:=key t 0 0 0 hne c hc;unfold isHx at this;have:=of_decide_eq_true this;omega
end Nice
