/-
  Part of the proof: PFl NiceT NiceC QC QD QT LT LM3. No condition.
-/
import Derived.Test.YtldllfocpadkeaaGreatDoorEng11
import Derived.Test.YtldllfocpadkeaaGreatDoorG1
import Derived.Test.YtldllfocpadkeaaGreatDoorSym
namespace Nice
open Go Go.Eng
def finW (x:Nat):Bool:=match FloatKind.f64.decode x with
 | .nan _ _=>false
 |_=>true
def truncW (x:Nat):Nat:=FloatKind.f64.encode ((FloatKind.f64.decode x).integral .zero)
def wholeW (x a b:Nat):Bool:=fRel .geq .f64 x a&&(fRel .leq .f64 x b&&fRel .eql .f64 x (truncW x))
theorem log_le {n k:Nat} (h1:1≤n) (h2:n<2^(k+1)):n.log2≤k:=by
 have:=(Nat.log2_lt (by omega:n≠0)).2 h2;omega
theorem cut_zero (way:Ieee.Toward) (n:Nat):way.cut false n 0=n:=by
 unfold Ieee.Toward.cut;have e:(1<<<min 0 (n.log2+2):Nat)=1:=by rw[Nat.zero_min];rfl
 simp only[e,Nat.div_one,Nat.mod_one,Nat.mul_zero];cases way<;>simp
theorem word_false (f:Ieee.Format) (x:Nat):f.word false x=x:=rfl
theorem nearest_pos {n:Nat} (h1:1≤n) (h2:n<2^53):FloatKind.f64.nearest (n:Int)=(n.log2+1022)*2^52+n*2^(52-n.log2):=by
 have hL:=log_le h1 h2;have hlo:=Nat.log2_self_le (by omega:n≠0);have hhi:=(Nat.log2_lt (by omega:n≠0)).1 (Nat.lt_succ_self n.log2);have e0:decide ((n:Int)<0)=false:=by rw[decide_eq_false_iff_not];omega
 show Ieee.Format.nearest Ieee.double (decide ((n:Int)<0)) (n:Int).natAbs 0=_;rw[e0,Int.natAbs_natCast];unfold Ieee.Format.nearest;rw[if_neg (by omega)];have hlp:Ieee.double.leastPlace= -1074:=by decide
 have hmax:max ((0:Int)+n.log2-(Ieee.double.fractionBits:Nat)) Ieee.double.leastPlace=(n.log2:Int)-52:=by
  rw[hlp];show max ((0:Int)+n.log2-52) (-1074)=_;omega
 simp only[hmax];rw[hlp];have e1:((n.log2:Int)-52-0).toNat=0:=by omega
 have e2:((0:Int)-((n.log2:Int)-52)).toNat=52-n.log2:=by omega
 have e3:((n.log2:Int)-52- -1074).toNat=n.log2+1022:=by omega
 rw[e1,e2,e3,cut_zero,Nat.shiftLeft_eq];have hb:Ieee.double.binade=2^52:=rfl;have hi:Ieee.double.infRung=2047*2^52:=by decide
 rw[hb,hi];have hk:n*2^(52-n.log2)<2^53:=by
  calc n*2^(52-n.log2)<2^(n.log2+1)*2^(52-n.log2):=Nat.mul_lt_mul_of_pos_right hhi (Nat.two_pow_pos _)
   _=2^53:=by rw[←Nat.pow_add];congr 1;omega
 rw[word_false];apply Nat.min_eq_left;omega
theorem decode_nearest {n:Nat} (h1:1≤n) (h2:n<2^53):FloatKind.f64.decode (FloatKind.f64.nearest (n:Int))=.number false (n*2^(52-n.log2)) ((n.log2:Int)-52):=by
 have hL:=log_le h1 h2;have hlo:=Nat.log2_self_le (by omega:n≠0);have hhi:=(Nat.log2_lt (by omega:n≠0)).1 (Nat.lt_succ_self n.log2);rw[nearest_pos h1 h2];have hk:n*2^(52-n.log2)<2^53:=by
  calc n*2^(52-n.log2)<2^(n.log2+1)*2^(52-n.log2):=Nat.mul_lt_mul_of_pos_right hhi (Nat.two_pow_pos _)
   _=2^53:=by rw[←Nat.pow_add];congr 1;omega
 have hg:2^52≤n*2^(52-n.log2):=by
  calc 2^52=2^n.log2*2^(52-n.log2):=by rw[←Nat.pow_add];congr 1;omega
   _≤n*2^(52-n.log2):=Nat.mul_le_mul_right _ hlo
 generalize n*2^(52-n.log2)=m at hk hg⊢;have hs:Ieee.double.signWeight=2^63:=rfl;have hb:Ieee.double.binade=2^52:=rfl;have hi:Ieee.double.infRung=2047*2^52:=by decide
 have hlp:Ieee.double.leastPlace= -1074:=by decide
 show Ieee.Format.read Ieee.double ((n.log2+1022)*2^52+m)=_;unfold Ieee.Format.read;simp only[hs,hb,hi,hlp];have q1:((n.log2+1022)*2^52+m)/2^63%2=0:=by omega
 have q2:((n.log2+1022)*2^52+m)%2^63=(n.log2+1022)*2^52+m:=by omega
 rw[q1,q2,if_neg (by omega),if_pos (by omega)];have q3:2^52+((n.log2+1022)*2^52+m)%2^52=m:=by omega
 have q4:((n.log2+1022)*2^52+m)/2^52-1=n.log2+1022:=by omega
 rw[q3,q4];have q5:(-1074:Int)+((n.log2+1022:Nat):Int)=(n.log2:Int)-52:=by omega
 rw[q5];rfl
theorem trunc_nearest {n:Nat} (h1:1≤n) (h2:n<2^53):truncW (FloatKind.f64.nearest (n:Int))=FloatKind.f64.nearest (n:Int):=by
 have hL:=log_le h1 h2;unfold truncW;rw[decode_nearest h1 h2];unfold Ieee.Datum.integral Ieee.Toward.cut;have e1:((n.log2:Int)-52).toNat=0:=by omega
 have e2:(-((n.log2:Int)-52)).toNat=52-n.log2:=by omega
 simp only[e1,e2,Nat.shiftLeft_zero,Bool.toNat_false,Nat.add_zero];have hg:(1<<<min (52-n.log2) ((n*2^(52-n.log2)).log2+2):Nat)=2^(52-n.log2):=by
  rw[Nat.shiftLeft_eq,Nat.one_mul,Nat.min_eq_left];have:2^(52-n.log2)≤n*2^(52-n.log2):=Nat.le_mul_of_pos_left _ h1;have:=(Nat.le_log2 (Nat.ne_of_gt (Nat.lt_of_lt_of_le (Nat.two_pow_pos _) this))).2 this;omega
 rw[hg,Nat.mul_div_cancel _ (Nat.two_pow_pos _)];have e0:decide ((n:Int)<0)=false:=by rw[decide_eq_false_iff_not];omega
 show _=Ieee.Format.nearest Ieee.double (decide ((n:Int)<0)) (n:Int).natAbs 0;rw[e0,Int.natAbs_natCast];rfl
theorem order_self (s:Bool) (m:Nat) (i:Int):Ieee.Datum.order (.number s m i) (.number s m i)=some .eq:=by
 unfold Ieee.Datum.order;simp
theorem whole_n {n:Nat} (h:n<65536):finW (FloatKind.f64.nearest (n:Int))=true∧wholeW (FloatKind.f64.nearest (n:Int)) 0 4679237813814689792=decide (n<65521):=by
 rcases Nat.eq_zero_or_pos n with rfl|h1
 ·decide
 have h2:n<2^53:=by omega
 have hd:=decode_nearest h1 h2;have hL:n.log2≤15:=log_le h1 (by omega);refine⟨by unfold finW;rw[hd],?_⟩;have hz:FloatKind.f64.decode 0=.number false 0 (-1074):=by decide
 have hw:FloatKind.f64.decode 4679237813814689792=.number false (65520*2^37) (-37):=by decide
 have o1:FloatKind.f64.format.order (FloatKind.f64.nearest (n:Int)) 0=some .gt:=by
  show Ieee.Datum.order (FloatKind.f64.decode (FloatKind.f64.nearest (n:Int))) (FloatKind.f64.decode 0)=_;rw[hd,hz];unfold Ieee.Datum.order Ieee.signed;have hm:min ((n.log2:Int)-52) (-1074)= -1074:=by omega
  simp only[hm,Bool.false_eq_true,if_false,Nat.shiftLeft_eq,Nat.zero_mul];congr 1;rw[Int.compare_eq_gt];have:0<n*2^(52-n.log2)*2^((n.log2:Int)-52- -1074).toNat:=Nat.mul_pos (Nat.mul_pos h1 (Nat.two_pow_pos _)) (Nat.two_pow_pos _);omega
 have o2:FloatKind.f64.format.order (FloatKind.f64.nearest (n:Int)) 4679237813814689792=some (compare n 65520):=by
  show Ieee.Datum.order (FloatKind.f64.decode (FloatKind.f64.nearest (n:Int))) (FloatKind.f64.decode 4679237813814689792)=_;rw[hd,hw];unfold Ieee.Datum.order Ieee.signed;have hm:min ((n.log2:Int)-52) (-37)=(n.log2:Int)-52:=by omega
  have e1:((n.log2:Int)-52-((n.log2:Int)-52)).toNat=0:=by omega
  have e2:((-37:Int)-((n.log2:Int)-52)).toNat=15-n.log2:=by omega
  simp only[hm,e1,e2,Bool.false_eq_true,if_false,Nat.shiftLeft_eq,Nat.pow_zero,Nat.mul_one];have e3:65520*2^37*2^(15-n.log2)=65520*2^(52-n.log2):=by
   rw[Nat.mul_assoc,←Nat.pow_add];congr 2;omega
  rw[e3];congr 1;have hp:=Nat.two_pow_pos (52-n.log2);generalize 2^(52-n.log2)=q at hp;rcases Nat.lt_trichotomy n 65520 with hlt|heq|hgt
  ·rw[Nat.compare_eq_lt.2 hlt,Int.compare_eq_lt];exact Int.ofNat_lt.2 (Nat.mul_lt_mul_of_pos_right hlt hp)
  ·rw[Nat.compare_eq_eq.2 heq,Int.compare_eq_eq,heq]
  ·rw[Nat.compare_eq_gt.2 hgt,Int.compare_eq_gt];exact Int.ofNat_lt.2 (Nat.mul_lt_mul_of_pos_right hgt hp)
 have o3:FloatKind.f64.format.order (FloatKind.f64.nearest (n:Int)) (FloatKind.f64.nearest (n:Int))=some .eq:=by
  show Ieee.Datum.order (FloatKind.f64.decode (FloatKind.f64.nearest (n:Int))) (FloatKind.f64.decode (FloatKind.f64.nearest (n:Int)))=_;rw[hd,order_self]
 unfold wholeW fRel;simp only[trunc_nearest h1 h2,o1,o2,o3];rcases Nat.lt_trichotomy n 65520 with hlt|heq|hgt
 ·rw[Nat.compare_eq_lt.2 hlt,decide_eq_true (by omega:n<65521)];rfl
 ·rw[Nat.compare_eq_eq.2 heq,decide_eq_true (by omega:n<65521)];rfl
 ·rw[Nat.compare_eq_gt.2 hgt,decide_eq_false (by omega:¬n<65521)];rfl
end Nice
namespace Nice
open Go Go.Eng
def isHx (c:UInt8):Bool:=decide (48≤c.toNat∧c.toNat≤57∨97≤c.toNat∧c.toNat≤102)
def hx (c:UInt8):Int:=bif decide (c.toNat≤57) then(c.toNat:Int)-48 else(c.toNat:Int)-87
def rdF:List UInt8→Nat→Int→Int→Option (Int×Int)
 |[],_,a,b=>some (a,b)
 |c::r,i,a,b=>bif isHx c then(bif decide (i<4) then rdF r (i+1) (a*16+hx c) b else rdF r (i+1) a (b*16+hx c)) else none
def rdZ (s:List UInt8):Option (Int×Int):=bif decide (s.length=8) then(match rdF s 0 0 0 with
 |some z=>bif decide (z.1<65521)&&decide (z.2<65521) then some z else none
 |none=>none) else none
def gRead (s:List UInt8):(Nat×Nat)×Bool:=match rdZ s with
 |some z=>((FloatKind.f64.nearest z.1,FloatKind.f64.nearest z.2),true)
 |none=>((0,0),false)
def rRead (s:List UInt8):(Int×Int×Unit)×Bool:=match rdZ s with
 |some z=>((z.1,z.2,()),true)
 |none=>((0,0,()),false)
def mayW (a b:Nat):Bool:=wholeW a 0 4679237813814689792&&wholeW b 0 4679237813814689792
noncomputable def archS:PSpec:=⟨[.f64],[.f64],fun x=>finW x.1,fun x=>(truncW x.1,())⟩
noncomputable def wholeS:PSpec:=⟨[.f64,.f64,.f64],[.bool],fun x=>finW x.1,fun x=>(wholeW x.1 x.2.1 x.2.2.1,())⟩
noncomputable def mayS:PSpec:=⟨[.cx],[.bool],fun x=>finW x.1.1&&finW x.1.2,fun x=>(mayW x.1.1 x.1.2,())⟩
noncomputable def gReadS:PSpec:=⟨[.str],[.cx,.bool],fun _=>true,fun x=>((gRead x.1).1,(gRead x.1).2,())⟩
end Nice
namespace Nice
open Go Go.Eng
def inmW:List UInt8:=[73,102,45,78,111,110,101,45,77,97,116,99,104]
def imW:List UInt8:=[73,102,45,77,97,116,99,104]
def putW:List UInt8:=[80,85,84]
def delW:List UInt8:=[68,69,76,69,84,69]
abbrev HeadL:Type:=List (List UInt8×List UInt8×Unit)
abbrev ReqW:Type:=List UInt8×List UInt8×List UInt8×HeadL×List UInt8×Unit
def idxG (x:List UInt8):List (List UInt8)→Int→Int
 |[],_=> -1
 |y::r,k=>bif x==y then k else idxG x r (k+1)
def idxS (l:List (List UInt8)) (x:List UInt8):Int:=idxG x l 0
def hasS (l:List (List UInt8)) (x:List UInt8):Bool:=l.any fun y=>x==y
def splitN (q:List UInt8):List (List UInt8):=Lib.split q [38]
def cutE (p:List UInt8):List UInt8×List UInt8×Bool:=Lib.cut p [61]
def shortS (s:List UInt8):Bool:=decide (s.length<4294967281)
def condsP (l:HeadL):Bool:=(valueP l inmW&&valueP l imW)&&bndS (valueN l imW).1
def tagA (s:List UInt8):List UInt8×Bool:=((cutSuf (cutPre s [34]).1 [34]).1,(cutPre s [34]).2&&((cutSuf (cutPre s [34]).1 [34]).2&&(gRead (cutSuf (cutPre s [34]).1 [34]).1).2))
def condsN (l:HeadL):Int×List UInt8×Bool:=
 bif (valueN l inmW).2 then(bif (valueN l imW).2 then(0,[],false) else(1,[],(valueN l inmW).1==[42]))
 else bif (valueN l imW).2 then(2,(tagA (valueN l imW).1).1,(tagA (valueN l imW).1).2) else(0,[],true)
def setPut (a:AskD) (b:List UInt8) (c:Int) (t:List UInt8):AskD:=(2,a.2.1,a.2.2.1,b,c,t,a.2.2.2.2.2.2)
def setKV (a:AskD) (k v:Int):AskD:=(k,a.2.1,v,a.2.2.2)
def verN (q:List UInt8):Int×Bool:=((numN (cutPre q vPre).1 (cutPre q vPre).1.length 1 1099511627776).1,(numN (cutPre q vPre).1 (cutPre q vPre).1.length 1 1099511627776).2&&((cutPre q vPre).2&& !((cutPre q vPre).1.getD 0 0==48)))
def keyedG (a:AskD) (m q:List UInt8) (hs:HeadL) (b:List UInt8):AskD×Bool:=
 bif isKey a.2.1 then
  bif m==putW then(setPut a b (condsN hs).1 (condsN hs).2.1,(condsN hs).2.2&&q==[])
  else bif q==[] then(setKV a (bif m==delW then 3 else 1) a.2.2.1,true)
  else(setKV a (bif m==delW then 3 else 1) (verN q).1,(verN q).2)
 else(a,false)
def lset (n v:List UInt8) (a:AskD):AskD×Bool:=
 bif n==wPre then(setPre a v,keyB v)
 else bif n==wAft then(setAft a v,keyB v)
 else bif n==wMax then(setMax a (numN v 2 1 20).1,(numN v 2 1 20).2)
 else bif n==wVer then(setKind a 5,v==[49])
 else(a,false)
def listedGo:List (List UInt8)→List (List UInt8)→AskD→AskD×Bool
 |[],_,a=>(a,true)
 |p::r,seen,a=>
  bif (cutE p).2.2 then
   bif hasS seen (cutE p).1 then(a,false)
   else bif (lset (cutE p).1 (cutE p).2.1 a).2 then listedGo r (seen++[(cutE p).1]) (lset (cutE p).1 (cutE p).2.1 a).1
   else((lset (cutE p).1 (cutE p).2.1 a).1,false)
  else(a,false)
def listedN (a:AskD) (q:List UInt8):AskD×Bool:=bif q==[] then(setMax (setKind a 4) 20,true) else listedGo (splitN q) [] (setMax (setKind a 4) 20)
noncomputable def hasSufT:PSpec:=⟨[.str,.str],[.bool],fun x=>bndS x.1,fun x=>(hasSuf x.1 x.2.1,())⟩
noncomputable def cutSufT:PSpec:=⟨[.str,.str],[.str,.bool],fun x=>bndS x.1,fun x=>((cutSuf x.1 x.2.1).1,(cutSuf x.1 x.2.1).2,())⟩
noncomputable def splitS:PSpec:=⟨[.str,.str],[.slice .str],fun x=>shortS x.1&&x.2.1==[38],fun x=>(splitN x.1,())⟩
noncomputable def cutES:PSpec:=⟨[.str,.str],[.str,.str,.bool],fun x=>shortS x.1&&x.2.1==[61],fun x=>((cutE x.1).1,(cutE x.1).2.1,(cutE x.1).2.2,())⟩
noncomputable def idxSS:PSpec:=⟨[.slice .str,.str],[.int .i64],fun x=>decide (x.1.length≤1000),fun x=>(idxS x.1 x.2.1,())⟩
noncomputable def hasSS:PSpec:=⟨[.slice .str,.str],[.bool],fun x=>decide (x.1.length≤1000),fun x=>(hasS x.1 x.2.1,())⟩
noncomputable def condsS:PSpec:=⟨[ReqT],[.int .i64,.str,.bool],fun x=>condsP x.1.2.2.2.1,fun x=>((condsN x.1.2.2.2.1).1,(condsN x.1.2.2.2.1).2.1,(condsN x.1.2.2.2.1).2.2,())⟩
noncomputable def keyedGS:PSpec:=⟨[AskT,ReqT],[AskT,.bool],fun x=>condsP x.2.1.2.2.2.1&&(bndS x.2.1.2.2.1&&bndS x.1.2.1),fun x=>((keyedG x.1 x.2.1.1 x.2.1.2.2.1 x.2.1.2.2.2.1 x.2.1.2.2.2.2.1).1,(keyedG x.1 x.2.1.1 x.2.1.2.2.1 x.2.1.2.2.2.1 x.2.1.2.2.2.2.1).2,())⟩
noncomputable def listedS:PSpec:=⟨[AskT,.str],[AskT,.bool],fun x=>shortS x.2.1,fun x=>((listedN x.1 x.2.1).1,(listedN x.1 x.2.1).2,())⟩
end Nice
namespace Nice
open Go Go.Eng
def ePre:List UInt8:=[112,114,101,102,105,120,61]
def eAft:List UInt8:=[97,102,116,101,114,61]
def eMax:List UInt8:=[109,97,120,61]
def getW:List UInt8:=[71,69,84]
def headW:List UInt8:=[72,69,65,68]
def oW:List UInt8:=[47,111]
def ooW:List UInt8:=[47,111,47]
abbrev SeenD:Type:=Bool×Bool×Bool×Bool
end Nice
namespace Go.Proofs.YtldllfocpadkeaaGreatDoor
open Go Go.Eng Nice
set_option maxRecDepth 1000000
abbrev shaconds:List (Nat×List (Nat×Sh)):=[]
noncomputable def oaconds (x:DenL [ReqT]):Option (DenL [.int .i64,.str,.bool]):=fO Tryz.prog (envS [(84,valueS),(194,cutPreS),(265,cutSufT),(193,gReadS)]) (shOf shaconds) Tryz.f137 [ReqT] [.int .i64,.str,.bool] x
theorem eaconds_g (N:Nat) (x0 x1 x2:List UInt8) (x3:List (List UInt8×List UInt8×Unit)) (x4:List UInt8):fON Tryz.prog (envS [(84,valueS),(194,cutPreS),(265,cutSufT),(193,gReadS)]) (shOf shaconds) Tryz.f137 [ReqT] [.int .i64,.str,.bool] N ((x0,x1,x2,x3,x4,()),())=
 (bif (valueN x3 inmW).snd then
  (gd [valueP x3 inmW] (bif (valueN x3 imW).snd then
   (gd [valueP x3 imW] (some ((0:Int),[],false,())))
  else
   (gd [valueP x3 imW] (bif (valueN x3 inmW).fst==[42] then
    (some ((1:Int),[],true,()))
   else
    (some ((1:Int),[],false,()))))))
 else
  (gd [valueP x3 inmW] (bif (valueN x3 imW).snd then
   (gd [bndS (cutPre (valueN x3 imW).fst [34]).fst,valueP x3 imW] (bif (gRead (cutSuf (cutPre (valueN x3 imW).fst [34]).fst [34]).fst).snd then
    (bif (cutPre (valueN x3 imW).fst [34]).snd then
     (bif (cutPre (valueN x3 imW).fst [34]).snd then
      (bif (cutSuf (cutPre (valueN x3 imW).fst [34]).fst [34]).snd then
       (bif (cutSuf (cutPre (valueN x3 imW).fst [34]).fst [34]).snd then
        (some ((2:Int),(cutSuf (cutPre (valueN x3 imW).fst [34]).fst [34]).fst,true,()))
       else
        (some ((2:Int),(cutSuf (cutPre (valueN x3 imW).fst [34]).fst [34]).fst,false,())))
      else
       (bif (cutSuf (cutPre (valueN x3 imW).fst [34]).fst [34]).snd then
        (none)
       else
        (some ((2:Int),(cutSuf (cutPre (valueN x3 imW).fst [34]).fst [34]).fst,false,()))))
     else
      (some ((2:Int),(cutSuf (cutPre (valueN x3 imW).fst [34]).fst [34]).fst,false,())))
    else
     (bif (cutPre (valueN x3 imW).fst [34]).snd then
      (none)
     else
      (some ((2:Int),(cutSuf (cutPre (valueN x3 imW).fst [34]).fst [34]).fst,false,()))))
   else
    (bif (cutPre (valueN x3 imW).fst [34]).snd then
     (bif (cutPre (valueN x3 imW).fst [34]).snd then
      (bif (cutSuf (cutPre (valueN x3 imW).fst [34]).fst [34]).snd then
       (bif (cutSuf (cutPre (valueN x3 imW).fst [34]).fst [34]).snd then
        (some ((2:Int),(cutSuf (cutPre (valueN x3 imW).fst [34]).fst [34]).fst,false,()))
       else
        (some ((2:Int),(cutSuf (cutPre (valueN x3 imW).fst [34]).fst [34]).fst,false,())))
      else
       (bif (cutSuf (cutPre (valueN x3 imW).fst [34]).fst [34]).snd then
        (none)
       else
        (some ((2:Int),(cutSuf (cutPre (valueN x3 imW).fst [34]).fst [34]).fst,false,()))))
     else
      (some ((2:Int),(cutSuf (cutPre (valueN x3 imW).fst [34]).fst [34]).fst,false,())))
    else
     (bif (cutPre (valueN x3 imW).fst [34]).snd then
      (none)
     else
      (some ((2:Int),(cutSuf (cutPre (valueN x3 imW).fst [34]).fst [34]).fst,false,()))))))
  else
   (gd [valueP x3 imW] (some ((0:Int),[],true,())))))):=by kernel_rfl
theorem oaconds_g (x:DenL [ReqT]):oaconds x=fON Tryz.prog (envS [(84,valueS),(194,cutPreS),(265,cutSufT),(193,gReadS)]) (shOf shaconds) Tryz.f137 [ReqT] [.int .i64,.str,.bool] heads0 x:=rfl
abbrev shakeyed:List (Nat×List (Nat×Sh)):=[]
noncomputable def oakeyed (x:DenL [AskT,ReqT]):Option (DenL [AskT,.bool]):=fO Tryz.prog (envS [(135,isKeyS),(136,numS),(137,condsS),(194,cutPreS)]) (shOf shakeyed) Tryz.f90 [AskT,ReqT] [AskT,.bool] x
theorem eakeyed_g (N:Nat) (x0:Ty.Den AskT) (x1 x2 x3:List UInt8) (x4:List (List UInt8×List UInt8×Unit)) (x5:List UInt8):fON Tryz.prog (envS [(135,isKeyS),(136,numS),(137,condsS),(194,cutPreS)]) (shOf shakeyed) Tryz.f90 [AskT,ReqT] [AskT,.bool] N (x0,(x1,x2,x3,x4,x5,()),())=
 (bif isKey x0.snd.fst then
  (gd [bndS x0.snd.fst] (bif x1==putW then
   (bif (condsN x4).snd.snd then
    (gd [condsP x4] (bif x3==[] then
     (some (((2:Int),x0.snd.fst,x0.snd.snd.fst,x5,(condsN x4).fst,(condsN x4).snd.fst,x0.snd.snd.snd.snd.snd.snd),true,()))
    else
     (some (((2:Int),x0.snd.fst,x0.snd.snd.fst,x5,(condsN x4).fst,(condsN x4).snd.fst,x0.snd.snd.snd.snd.snd.snd),false,()))))
   else
    (gd [condsP x4] (some (((2:Int),x0.snd.fst,x0.snd.snd.fst,x5,(condsN x4).fst,(condsN x4).snd.fst,x0.snd.snd.snd.snd.snd.snd),false,()))))
  else
   (bif x1==delW then
    (bif x3==[] then
     (some (((3:Int),x0.snd),true,()))
    else
     (bif (numN (cutPre x3 vPre).fst (↑(cutPre x3 vPre).fst.length:Int) ((1:Int)) ((1099511627776:Int))).snd then
      (gd [bndS (cutPre x3 vPre).fst] (bif (cutPre x3 vPre).snd then
       (bif (cutPre x3 vPre).snd then
        (bif (↑((cutPre x3 vPre).fst.getD 0 0).toNat:Int) !=(48:Int) then
         (gd [decide ((0:Int)<(↑(cutPre x3 vPre).fst.length:Int))] (some (((3:Int),x0.snd.fst,(numN (cutPre x3 vPre).fst (↑(cutPre x3 vPre).fst.length:Int) ((1:Int)) ((1099511627776:Int))).fst,x0.snd.snd.snd),true,())))
        else
         (gd [decide ((0:Int)<(↑(cutPre x3 vPre).fst.length:Int))] (some (((3:Int),x0.snd.fst,(numN (cutPre x3 vPre).fst (↑(cutPre x3 vPre).fst.length:Int) ((1:Int)) ((1099511627776:Int))).fst,x0.snd.snd.snd),false,()))))
       else
        (some (((3:Int),x0.snd.fst,(numN (cutPre x3 vPre).fst (↑(cutPre x3 vPre).fst.length:Int) ((1:Int)) ((1099511627776:Int))).fst,x0.snd.snd.snd),false,())))
      else
       (bif (cutPre x3 vPre).snd then
        (none)
       else
        (some (((3:Int),x0.snd.fst,(numN (cutPre x3 vPre).fst (↑(cutPre x3 vPre).fst.length:Int) ((1:Int)) ((1099511627776:Int))).fst,x0.snd.snd.snd),false,())))))
     else
      (gd [bndS (cutPre x3 vPre).fst] (bif (cutPre x3 vPre).snd then
       (bif (cutPre x3 vPre).snd then
        (some (((3:Int),x0.snd.fst,(numN (cutPre x3 vPre).fst (↑(cutPre x3 vPre).fst.length:Int) ((1:Int)) ((1099511627776:Int))).fst,x0.snd.snd.snd),false,()))
       else
        (some (((3:Int),x0.snd.fst,(numN (cutPre x3 vPre).fst (↑(cutPre x3 vPre).fst.length:Int) ((1:Int)) ((1099511627776:Int))).fst,x0.snd.snd.snd),false,())))
      else
       (bif (cutPre x3 vPre).snd then
        (none)
       else
        (some (((3:Int),x0.snd.fst,(numN (cutPre x3 vPre).fst (↑(cutPre x3 vPre).fst.length:Int) ((1:Int)) ((1099511627776:Int))).fst,x0.snd.snd.snd),false,())))))))
   else
    (bif x3==[] then
     (some (((1:Int),x0.snd),true,()))
    else
     (bif (numN (cutPre x3 vPre).fst (↑(cutPre x3 vPre).fst.length:Int) ((1:Int)) ((1099511627776:Int))).snd then
      (gd [bndS (cutPre x3 vPre).fst] (bif (cutPre x3 vPre).snd then
       (bif (cutPre x3 vPre).snd then
        (bif (↑((cutPre x3 vPre).fst.getD 0 0).toNat:Int) !=(48:Int) then
         (gd [decide ((0:Int)<(↑(cutPre x3 vPre).fst.length:Int))] (some (((1:Int),x0.snd.fst,(numN (cutPre x3 vPre).fst (↑(cutPre x3 vPre).fst.length:Int) ((1:Int)) ((1099511627776:Int))).fst,x0.snd.snd.snd),true,())))
        else
         (gd [decide ((0:Int)<(↑(cutPre x3 vPre).fst.length:Int))] (some (((1:Int),x0.snd.fst,(numN (cutPre x3 vPre).fst (↑(cutPre x3 vPre).fst.length:Int) ((1:Int)) ((1099511627776:Int))).fst,x0.snd.snd.snd),false,()))))
       else
        (some (((1:Int),x0.snd.fst,(numN (cutPre x3 vPre).fst (↑(cutPre x3 vPre).fst.length:Int) ((1:Int)) ((1099511627776:Int))).fst,x0.snd.snd.snd),false,())))
      else
       (bif (cutPre x3 vPre).snd then
        (none)
       else
        (some (((1:Int),x0.snd.fst,(numN (cutPre x3 vPre).fst (↑(cutPre x3 vPre).fst.length:Int) ((1:Int)) ((1099511627776:Int))).fst,x0.snd.snd.snd),false,())))))
     else
      (gd [bndS (cutPre x3 vPre).fst] (bif (cutPre x3 vPre).snd then
       (bif (cutPre x3 vPre).snd then
        (some (((1:Int),x0.snd.fst,(numN (cutPre x3 vPre).fst (↑(cutPre x3 vPre).fst.length:Int) ((1:Int)) ((1099511627776:Int))).fst,x0.snd.snd.snd),false,()))
       else
        (some (((1:Int),x0.snd.fst,(numN (cutPre x3 vPre).fst (↑(cutPre x3 vPre).fst.length:Int) ((1:Int)) ((1099511627776:Int))).fst,x0.snd.snd.snd),false,())))
      else
       (bif (cutPre x3 vPre).snd then
        (none)
       else
        (some (((1:Int),x0.snd.fst,(numN (cutPre x3 vPre).fst (↑(cutPre x3 vPre).fst.length:Int) ((1:Int)) ((1099511627776:Int))).fst,x0.snd.snd.snd),false,()))))))))))
 else
  (gd [bndS x0.snd.fst] (some (x0,false,())))):=by kernel_rfl
theorem oakeyed_g (x:DenL [AskT,ReqT]):oakeyed x=fON Tryz.prog (envS [(135,isKeyS),(136,numS),(137,condsS),(194,cutPreS)]) (shOf shakeyed) Tryz.f90 [AskT,ReqT] [AskT,.bool] heads0 x:=rfl
abbrev shhsuf:List (Nat×List (Nat×Sh)):=[]
noncomputable def ohsuf (x:DenL [.str,.str]):Option (DenL [.bool]):=fO Tryz.prog (envS []) (shOf shhsuf) Tryz.f314 [.str,.str] [.bool] x
theorem ehsuf_g (N:Nat) (x0 x1:List UInt8):fON Tryz.prog (envS []) (shOf shhsuf) Tryz.f314 [.str,.str] [.bool] N (x0,x1,())=
 (bif decide ((↑x0.length:Int)≥(↑x1.length:Int)) then
  (bif List.drop ((↑x0.length:Int)-(↑x1.length:Int)).toNat x0==x1 then
   (gd [decide ((0:Int)≤(↑x0.length:Int)-(↑x1.length:Int)),decide ((↑x0.length:Int)-(↑x1.length:Int)≤(↑x0.length:Int)),decide (inK .i64 ((↑x0.length:Int)-(↑x1.length:Int)))] (some (true,())))
  else
   (gd [decide ((0:Int)≤(↑x0.length:Int)-(↑x1.length:Int)),decide ((↑x0.length:Int)-(↑x1.length:Int)≤(↑x0.length:Int)),decide (inK .i64 ((↑x0.length:Int)-(↑x1.length:Int)))] (some (false,()))))
 else
  (some (false,()))):=by kernel_rfl
theorem ohsuf_g (x:DenL [.str,.str]):ohsuf x=fON Tryz.prog (envS []) (shOf shhsuf) Tryz.f314 [.str,.str] [.bool] heads0 x:=rfl
abbrev shcsuf:List (Nat×List (Nat×Sh)):=[]
noncomputable def ocsuf (x:DenL [.str,.str]):Option (DenL [.str,.bool]):=fO Tryz.prog (envS [(314,hasSufT)]) (shOf shcsuf) Tryz.f265 [.str,.str] [.str,.bool] x
theorem ecsuf_g (N:Nat) (x0 x1:List UInt8):fON Tryz.prog (envS [(314,hasSufT)]) (shOf shcsuf) Tryz.f265 [.str,.str] [.str,.bool] N (x0,x1,())=
 (bif hasSuf x0 x1 then
  (gd [decide ((0:Int)≤(↑x0.length:Int)-(↑x1.length:Int)),decide ((↑x0.length:Int)-(↑x1.length:Int)≤(↑x0.length:Int)),decide (inK .i64 ((↑x0.length:Int)-(↑x1.length:Int))),bndS x0] (some (List.take ((↑x0.length:Int)-(↑x1.length:Int)).toNat x0,true,())))
 else
  (gd [bndS x0] (some (x0,false,())))):=by kernel_rfl
theorem ocsuf_g (x:DenL [.str,.str]):ocsuf x=fON Tryz.prog (envS [(314,hasSufT)]) (shOf shcsuf) Tryz.f265 [.str,.str] [.str,.bool] heads0 x:=rfl
abbrev shsidx:List (Nat×List (Nat×Sh)):=[(2,[(0,(.one (.dat .str))),(1,(.one .sym)),(4,(.one .sym)),(7,(.one .sym)),(8,(.one .sym))])]
noncomputable def hsidx_0 (n:Nat) (t0:List (Ty.Den .str)) (t1:List UInt8) (t4:Int) (t7:Int) (t8:Int):Option (DenL [.int .i64]):=rH Tryz.prog (envS []) (shOf shsidx) Tryz.f187 [.int .i64] n 0 [(0,dt 10),(1,sy (.string (bs t1))),(4,sy (.int .i64 t4)),(7,sy (.int .i64 t7)),(8,sy (.int .i64 t8))] [.dat .str t0]
noncomputable def osidx (x:DenL [.slice .str,.str]):Option (DenL [.int .i64]):=fO Tryz.prog (envS []) (shOf shsidx) Tryz.f187 [.slice .str,.str] [.int .i64] x
theorem esidx_g (N:Nat) (x0:List (List UInt8)) (x1:List UInt8):fON Tryz.prog (envS []) (shOf shsidx) Tryz.f187 [.slice .str,.str] [.int .i64] N (x0,x1,())=
 (hsidx_0 N (x0) (x1) ((0:Int)) ((↑x0.length:Int)) ((0:Int))):=by kernel_rfl
theorem osidx_g (x:DenL [.slice .str,.str]):osidx x=fON Tryz.prog (envS []) (shOf shsidx) Tryz.f187 [.slice .str,.str] [.int .i64] heads0 x:=rfl
theorem esidx_0 (n:Nat) (t0:List (Ty.Den .str)) (t1:List UInt8) (t4:Int) (t7:Int) (t8:Int):hsidx_0 (n+1) t0 t1 t4 t7 t8=
 (bif decide (t8<t7) then
  (bif t1==t0.getD t8.toNat Ty.str.dflt then
   (gd [decide (t8.toNat<t0.length),decide ((0:Int)≤t8),decide (t8<(↑t0.length:Int))] (some (t8,())))
  else
   (gd [decide (inK .i64 (t8+(1:Int))),decide (t8.toNat<t0.length),decide ((0:Int)≤t8),decide (t8<(↑t0.length:Int))] (hsidx_0 n (t0) (t1) (t4) (t7) (t8+(1:Int)))))
 else
  (some (Int.negSucc 0,()))):=by kernel_rfl
abbrev shshas:List (Nat×List (Nat×Sh)):=[]
noncomputable def oshas (x:DenL [.slice .str,.str]):Option (DenL [.bool]):=fO Tryz.prog (envS [(187,idxSS)]) (shOf shshas) Tryz.f134 [.slice .str,.str] [.bool] x
theorem eshas_g (N:Nat) (x0:List (List UInt8)) (x1:List UInt8):fON Tryz.prog (envS [(187,idxSS)]) (shOf shshas) Tryz.f134 [.slice .str,.str] [.bool] N (x0,x1,())=
 (bif decide (idxS x0 x1≥(0:Int)) then
  (gd [decide (x0.length≤1000)] (some (true,())))
 else
  (gd [decide (x0.length≤1000)] (some (false,())))):=by kernel_rfl
theorem oshas_g (x:DenL [.slice .str,.str]):oshas x=fON Tryz.prog (envS [(187,idxSS)]) (shOf shshas) Tryz.f134 [.slice .str,.str] [.bool] heads0 x:=rfl
abbrev shlisted:List (Nat×List (Nat×Sh)):=[(6,[(2,(.obj [.sym,.sym,.sym,.sym,.sym,.sym,.sym,.sym,.sym,.sym])),(4,(.obj [.sym,.sym,.sym,.sym,.sym,.sym,.sym,.sym,.sym,.sym])),(5,(.one .sym)),(6,(.one (.vec .str 9))),(21,(.one (.dat .str))),(22,(.one .sym)),(23,(.one .sym))])]
noncomputable def hlisted_0 (n:Nat) (t2_0:Int) (t2_1:List UInt8) (t2_2:Int) (t2_3:List UInt8) (t2_4:Int) (t2_5:List UInt8) (t2_6:List UInt8) (t2_7:List UInt8) (t2_8:Int) (t2_9:Bool) (t4_0:Int) (t4_1:List UInt8) (t4_2:Int) (t4_3:List UInt8) (t4_4:Int) (t4_5:List UInt8) (t4_6:List UInt8) (t4_7:List UInt8) (t4_8:Int) (t4_9:Bool) (t5:Bool) (t6:List (Ty.Den .str)) (t21:List (Ty.Den .str)) (t22:Int) (t23:Int):Option (DenL [AskT,.bool]):=rH Tryz.prog (envS [(135,isKeyS),(132,splitS),(133,cutES),(134,hasSS),(136,numS)]) (shOf shlisted) Tryz.f89 [AskT,.bool] n 0 [(2,.pointer (some ⟨10,0,none⟩)),(4,.pointer (some ⟨11,0,none⟩)),(5,.bool t5),(6,dt 12),(21,dt 13),(22,sy (.int .i64 t22)),(23,sy (.int .i64 t23))] [.row [sy (.int .i64 t2_0),sy (.string (bs t2_1)),sy (.int .i64 t2_2),sy (.string (bs t2_3)),sy (.int .i64 t2_4),sy (.string (bs t2_5)),sy (.string (bs t2_6)),sy (.string (bs t2_7)),sy (.int .i64 t2_8),.bool t2_9] 28 false,.row [sy (.int .i64 t4_0),sy (.string (bs t4_1)),sy (.int .i64 t4_2),sy (.string (bs t4_3)),sy (.int .i64 t4_4),sy (.string (bs t4_5)),sy (.string (bs t4_6)),sy (.string (bs t4_7)),sy (.int .i64 t4_8),.bool t4_9] 28 false,.vec .str t6 9,.dat .str t21]
noncomputable def olisted (x:DenL [AskT,.str]):Option (DenL [AskT,.bool]):=fO Tryz.prog (envS [(135,isKeyS),(132,splitS),(133,cutES),(134,hasSS),(136,numS)]) (shOf shlisted) Tryz.f89 [AskT,.str] [AskT,.bool] x
theorem elisted_g (N:Nat) (x0:Ty.Den AskT) (x1:List UInt8):fON Tryz.prog (envS [(135,isKeyS),(132,splitS),(133,cutES),(134,hasSS),(136,numS)]) (shOf shlisted) Tryz.f89 [AskT,.str] [AskT,.bool] N (x0,x1,())=
 (bif x1==[] then
  (some (((4:Int),x0.snd.fst,x0.snd.snd.fst,x0.snd.snd.snd.fst,x0.snd.snd.snd.snd.fst,x0.snd.snd.snd.snd.snd.fst,x0.snd.snd.snd.snd.snd.snd.fst,x0.snd.snd.snd.snd.snd.snd.snd.fst,(20:Int),x0.snd.snd.snd.snd.snd.snd.snd.snd.snd.fst,()),true,()))
 else
  (gd [shortS x1&&[38]==[38]] (hlisted_0 N ((4:Int)) (x0.snd.fst) (x0.snd.snd.fst) (x0.snd.snd.snd.fst) (x0.snd.snd.snd.snd.fst) (x0.snd.snd.snd.snd.snd.fst) (x0.snd.snd.snd.snd.snd.snd.fst) (x0.snd.snd.snd.snd.snd.snd.snd.fst) ((20:Int)) (x0.snd.snd.snd.snd.snd.snd.snd.snd.snd.fst) ((0:Int)) ([]) ((0:Int)) ([]) ((0:Int)) ([]) ([]) ([]) ((0:Int)) (false) (false) ([]) (splitN x1) ((↑(splitN x1).length:Int)) ((0:Int))))):=by kernel_rfl
theorem olisted_g (x:DenL [AskT,.str]):olisted x=fON Tryz.prog (envS [(135,isKeyS),(132,splitS),(133,cutES),(134,hasSS),(136,numS)]) (shOf shlisted) Tryz.f89 [AskT,.str] [AskT,.bool] heads0 x:=rfl
theorem elisted_0 (n:Nat) (t2_0:Int) (t2_1:List UInt8) (t2_2:Int) (t2_3:List UInt8) (t2_4:Int) (t2_5:List UInt8) (t2_6:List UInt8) (t2_7:List UInt8) (t2_8:Int) (t2_9:Bool) (t4_0:Int) (t4_1:List UInt8) (t4_2:Int) (t4_3:List UInt8) (t4_4:Int) (t4_5:List UInt8) (t4_6:List UInt8) (t4_7:List UInt8) (t4_8:Int) (t4_9:Bool) (t5:Bool) (t6:List (Ty.Den .str)) (t21:List (Ty.Den .str)) (t22:Int) (t23:Int):hlisted_0 (n+1) t2_0 t2_1 t2_2 t2_3 t2_4 t2_5 t2_6 t2_7 t2_8 t2_9 t4_0 t4_1 t4_2 t4_3 t4_4 t4_5 t4_6 t4_7 t4_8 t4_9 t5 t6 t21 t22 t23=
 (bif decide (t23<t22) then
  (gd [decide (t23.toNat<t21.length),decide ((0:Int)≤t23),decide (t23<(↑t21.length:Int))] (bif (cutE (t21.getD t23.toNat Ty.str.dflt)).snd.snd then
   (gd [shortS (t21.getD t23.toNat Ty.str.dflt)&&[61]==[61]] (bif hasS t6 (cutE (t21.getD t23.toNat Ty.str.dflt)).fst then
    (gd [decide (t6.length≤1000)] (some ((t2_0,t2_1,t2_2,t2_3,t2_4,t2_5,t2_6,t2_7,t2_8,t2_9,()),false,())))
   else
    (gd [decide ((2*(t6.length+[(cutE (t21.getD t23.toNat Ty.str.dflt)).fst].length)+400)*16≤281474976710656),decide (t6.length≤1000)] (bif (cutE (t21.getD t23.toNat Ty.str.dflt)).snd.fst==[] then
     (bif (cutE (t21.getD t23.toNat Ty.str.dflt)).fst==wPre then
      (gd [decide (inK .i64 (t23+(1:Int)))] (hlisted_0 n (t2_0) (t2_1) (t2_2) (t2_3) (t2_4) (t2_5) ((cutE (t21.getD t23.toNat Ty.str.dflt)).snd.fst) (t2_7) (t2_8) (t2_9) (t4_0) (t4_1) (t4_2) (t4_3) (t4_4) (t4_5) (t4_6) (t4_7) (t4_8) (t4_9) (t5) (t6++[(cutE (t21.getD t23.toNat Ty.str.dflt)).fst]) (t21) (t22) (t23+(1:Int))))
     else
      (bif (cutE (t21.getD t23.toNat Ty.str.dflt)).fst==wAft then
       (gd [decide (inK .i64 (t23+(1:Int)))] (hlisted_0 n (t2_0) (t2_1) (t2_2) (t2_3) (t2_4) (t2_5) (t2_6) ((cutE (t21.getD t23.toNat Ty.str.dflt)).snd.fst) (t2_8) (t2_9) (t4_0) (t4_1) (t4_2) (t4_3) (t4_4) (t4_5) (t4_6) (t4_7) (t4_8) (t4_9) (t5) (t6++[(cutE (t21.getD t23.toNat Ty.str.dflt)).fst]) (t21) (t22) (t23+(1:Int))))
      else
       (bif (cutE (t21.getD t23.toNat Ty.str.dflt)).fst==wMax then
        (bif (numN (cutE (t21.getD t23.toNat Ty.str.dflt)).snd.fst ((2:Int)) ((1:Int)) ((20:Int))).snd then
         (gd [decide (inK .i64 (t23+(1:Int))),bndS (cutE (t21.getD t23.toNat Ty.str.dflt)).snd.fst] (hlisted_0 n (t2_0) (t2_1) (t2_2) (t2_3) (t2_4) (t2_5) (t2_6) (t2_7) ((numN (cutE (t21.getD t23.toNat Ty.str.dflt)).snd.fst ((2:Int)) ((1:Int)) ((20:Int))).fst) (t2_9) (t4_0) (t4_1) (t4_2) (t4_3) (t4_4) (t4_5) (t4_6) (t4_7) (t4_8) (t4_9) (t5) (t6++[(cutE (t21.getD t23.toNat Ty.str.dflt)).fst]) (t21) (t22) (t23+(1:Int))))
        else
         (gd [bndS (cutE (t21.getD t23.toNat Ty.str.dflt)).snd.fst] (some ((t2_0,t2_1,t2_2,t2_3,t2_4,t2_5,t2_6,t2_7,(numN (cutE (t21.getD t23.toNat Ty.str.dflt)).snd.fst ((2:Int)) ((1:Int)) ((20:Int))).fst,t2_9,()),false,()))))
       else
        (bif (cutE (t21.getD t23.toNat Ty.str.dflt)).fst==wVer then
         (bif (cutE (t21.getD t23.toNat Ty.str.dflt)).snd.fst==[49] then
          (gd [decide (inK .i64 (t23+(1:Int)))] (hlisted_0 n ((5:Int)) (t2_1) (t2_2) (t2_3) (t2_4) (t2_5) (t2_6) (t2_7) (t2_8) (t2_9) (t4_0) (t4_1) (t4_2) (t4_3) (t4_4) (t4_5) (t4_6) (t4_7) (t4_8) (t4_9) (t5) (t6++[(cutE (t21.getD t23.toNat Ty.str.dflt)).fst]) (t21) (t22) (t23+(1:Int))))
         else
          (some (((5:Int),t2_1,t2_2,t2_3,t2_4,t2_5,t2_6,t2_7,t2_8,t2_9,()),false,())))
        else
         (some ((t2_0,t2_1,t2_2,t2_3,t2_4,t2_5,t2_6,t2_7,t2_8,t2_9,()),false,()))))))
    else
     (bif isKey (cutE (t21.getD t23.toNat Ty.str.dflt)).snd.fst then
      (gd [bndS (cutE (t21.getD t23.toNat Ty.str.dflt)).snd.fst] (bif (cutE (t21.getD t23.toNat Ty.str.dflt)).fst==wPre then
       (gd [decide (inK .i64 (t23+(1:Int)))] (hlisted_0 n (t2_0) (t2_1) (t2_2) (t2_3) (t2_4) (t2_5) ((cutE (t21.getD t23.toNat Ty.str.dflt)).snd.fst) (t2_7) (t2_8) (t2_9) (t4_0) (t4_1) (t4_2) (t4_3) (t4_4) (t4_5) (t4_6) (t4_7) (t4_8) (t4_9) (t5) (t6++[(cutE (t21.getD t23.toNat Ty.str.dflt)).fst]) (t21) (t22) (t23+(1:Int))))
      else
       (bif (cutE (t21.getD t23.toNat Ty.str.dflt)).fst==wAft then
        (gd [decide (inK .i64 (t23+(1:Int)))] (hlisted_0 n (t2_0) (t2_1) (t2_2) (t2_3) (t2_4) (t2_5) (t2_6) ((cutE (t21.getD t23.toNat Ty.str.dflt)).snd.fst) (t2_8) (t2_9) (t4_0) (t4_1) (t4_2) (t4_3) (t4_4) (t4_5) (t4_6) (t4_7) (t4_8) (t4_9) (t5) (t6++[(cutE (t21.getD t23.toNat Ty.str.dflt)).fst]) (t21) (t22) (t23+(1:Int))))
       else
        (bif (cutE (t21.getD t23.toNat Ty.str.dflt)).fst==wMax then
         (bif (numN (cutE (t21.getD t23.toNat Ty.str.dflt)).snd.fst ((2:Int)) ((1:Int)) ((20:Int))).snd then
          (gd [decide (inK .i64 (t23+(1:Int))),bndS (cutE (t21.getD t23.toNat Ty.str.dflt)).snd.fst] (hlisted_0 n (t2_0) (t2_1) (t2_2) (t2_3) (t2_4) (t2_5) (t2_6) (t2_7) ((numN (cutE (t21.getD t23.toNat Ty.str.dflt)).snd.fst ((2:Int)) ((1:Int)) ((20:Int))).fst) (t2_9) (t4_0) (t4_1) (t4_2) (t4_3) (t4_4) (t4_5) (t4_6) (t4_7) (t4_8) (t4_9) (t5) (t6++[(cutE (t21.getD t23.toNat Ty.str.dflt)).fst]) (t21) (t22) (t23+(1:Int))))
         else
          (gd [bndS (cutE (t21.getD t23.toNat Ty.str.dflt)).snd.fst] (some ((t2_0,t2_1,t2_2,t2_3,t2_4,t2_5,t2_6,t2_7,(numN (cutE (t21.getD t23.toNat Ty.str.dflt)).snd.fst ((2:Int)) ((1:Int)) ((20:Int))).fst,t2_9,()),false,()))))
        else
         (bif (cutE (t21.getD t23.toNat Ty.str.dflt)).fst==wVer then
          (bif (cutE (t21.getD t23.toNat Ty.str.dflt)).snd.fst==[49] then
           (gd [decide (inK .i64 (t23+(1:Int)))] (hlisted_0 n ((5:Int)) (t2_1) (t2_2) (t2_3) (t2_4) (t2_5) (t2_6) (t2_7) (t2_8) (t2_9) (t4_0) (t4_1) (t4_2) (t4_3) (t4_4) (t4_5) (t4_6) (t4_7) (t4_8) (t4_9) (t5) (t6++[(cutE (t21.getD t23.toNat Ty.str.dflt)).fst]) (t21) (t22) (t23+(1:Int))))
          else
           (some (((5:Int),t2_1,t2_2,t2_3,t2_4,t2_5,t2_6,t2_7,t2_8,t2_9,()),false,())))
         else
          (some ((t2_0,t2_1,t2_2,t2_3,t2_4,t2_5,t2_6,t2_7,t2_8,t2_9,()),false,())))))))
     else
      (gd [bndS (cutE (t21.getD t23.toNat Ty.str.dflt)).snd.fst] (bif (cutE (t21.getD t23.toNat Ty.str.dflt)).fst==wPre then
       (some ((t2_0,t2_1,t2_2,t2_3,t2_4,t2_5,(cutE (t21.getD t23.toNat Ty.str.dflt)).snd.fst,t2_7,t2_8,t2_9,()),false,()))
      else
       (bif (cutE (t21.getD t23.toNat Ty.str.dflt)).fst==wAft then
        (some ((t2_0,t2_1,t2_2,t2_3,t2_4,t2_5,t2_6,(cutE (t21.getD t23.toNat Ty.str.dflt)).snd.fst,t2_8,t2_9,()),false,()))
       else
        (bif (cutE (t21.getD t23.toNat Ty.str.dflt)).fst==wMax then
         (bif (numN (cutE (t21.getD t23.toNat Ty.str.dflt)).snd.fst ((2:Int)) ((1:Int)) ((20:Int))).snd then
          (gd [decide (inK .i64 (t23+(1:Int))),bndS (cutE (t21.getD t23.toNat Ty.str.dflt)).snd.fst] (hlisted_0 n (t2_0) (t2_1) (t2_2) (t2_3) (t2_4) (t2_5) (t2_6) (t2_7) ((numN (cutE (t21.getD t23.toNat Ty.str.dflt)).snd.fst ((2:Int)) ((1:Int)) ((20:Int))).fst) (t2_9) (t4_0) (t4_1) (t4_2) (t4_3) (t4_4) (t4_5) (t4_6) (t4_7) (t4_8) (t4_9) (t5) (t6++[(cutE (t21.getD t23.toNat Ty.str.dflt)).fst]) (t21) (t22) (t23+(1:Int))))
         else
          (gd [bndS (cutE (t21.getD t23.toNat Ty.str.dflt)).snd.fst] (some ((t2_0,t2_1,t2_2,t2_3,t2_4,t2_5,t2_6,t2_7,(numN (cutE (t21.getD t23.toNat Ty.str.dflt)).snd.fst ((2:Int)) ((1:Int)) ((20:Int))).fst,t2_9,()),false,()))))
        else
         (bif (cutE (t21.getD t23.toNat Ty.str.dflt)).fst==wVer then
          (bif (cutE (t21.getD t23.toNat Ty.str.dflt)).snd.fst==[49] then
           (gd [decide (inK .i64 (t23+(1:Int)))] (hlisted_0 n ((5:Int)) (t2_1) (t2_2) (t2_3) (t2_4) (t2_5) (t2_6) (t2_7) (t2_8) (t2_9) (t4_0) (t4_1) (t4_2) (t4_3) (t4_4) (t4_5) (t4_6) (t4_7) (t4_8) (t4_9) (t5) (t6++[(cutE (t21.getD t23.toNat Ty.str.dflt)).fst]) (t21) (t22) (t23+(1:Int))))
          else
           (some (((5:Int),t2_1,t2_2,t2_3,t2_4,t2_5,t2_6,t2_7,t2_8,t2_9,()),false,())))
         else
          (some ((t2_0,t2_1,t2_2,t2_3,t2_4,t2_5,t2_6,t2_7,t2_8,t2_9,()),false,()))))))))))))
  else
   (gd [shortS (t21.getD t23.toNat Ty.str.dflt)&&[61]==[61]] (some ((t2_0,t2_1,t2_2,t2_3,t2_4,t2_5,t2_6,t2_7,t2_8,t2_9,()),false,())))))
 else
  (some ((t2_0,t2_1,t2_2,t2_3,t2_4,t2_5,t2_6,t2_7,t2_8,t2_9,()),true,()))):=by kernel_rfl
end Go.Proofs.YtldllfocpadkeaaGreatDoor
namespace Go.Proofs.YtldllfocpadkeaaGreatDoor
open Go Go.Eng Nice
set_option maxRecDepth 1000000
abbrev shwhole:List (Nat×List (Nat×Sh)):=[]
noncomputable def owhole (x:DenL [.f64,.f64,.f64]):Option (DenL [.bool]):=fO Tryz.prog (envS [(318,archS)]) (shOf shwhole) Tryz.f269 [.f64,.f64,.f64] [.bool] x
theorem ewhole_g (N:Nat) (x0 x1 x2:Nat):fON Tryz.prog (envS [(318,archS)]) (shOf shwhole) Tryz.f269 [.f64,.f64,.f64] [.bool] N (x0,x1,x2,())=
 (bif fRel BinOp.geq FloatKind.f64 x0 x1 then
  (bif fRel BinOp.leq FloatKind.f64 x0 x2 then
   (bif fRel BinOp.eql FloatKind.f64 x0 (truncW x0) then
    (gd [finW x0] (some (true,())))
   else
    (gd [finW x0] (some (false,()))))
  else
   (some (false,())))
 else
  (some (false,()))):=by kernel_rfl
theorem owhole_g (x:DenL [.f64,.f64,.f64]):owhole x=fON Tryz.prog (envS [(318,archS)]) (shOf shwhole) Tryz.f269 [.f64,.f64,.f64] [.bool] heads0 x:=rfl
abbrev shgmay:List (Nat×List (Nat×Sh)):=[]
noncomputable def ogmay (x:DenL [.cx]):Option (DenL [.bool]):=fO Tryz.prog (envS [(269,wholeS)]) (shOf shgmay) Tryz.f201 [.cx] [.bool] x
theorem egmay_g (N:Nat) (x0:Nat×Nat):fON Tryz.prog (envS [(269,wholeS)]) (shOf shgmay) Tryz.f201 [.cx] [.bool] N (x0,())=
 (bif wholeW x0.fst 0 4679237813814689792 then
  (bif wholeW x0.snd 0 4679237813814689792 then
   (gd [finW x0.snd,finW x0.fst] (some (true,())))
  else
   (gd [finW x0.snd,finW x0.fst] (some (false,()))))
 else
  (gd [finW x0.fst] (some (false,())))):=by kernel_rfl
theorem ogmay_g (x:DenL [.cx]):ogmay x=fON Tryz.prog (envS [(269,wholeS)]) (shOf shgmay) Tryz.f201 [.cx] [.bool] heads0 x:=rfl
abbrev shgread:List (Nat×List (Nat×Sh)):=[(5,[(0,(.one .sym)),(2,(.one .any)),(3,(.one .sym)),(4,(.obj [.sym,.sym])),(12,(.one .sym)),(13,(.one .sym))])]
noncomputable def hgread_0 (n:Nat) (t0:List UInt8) (t3:Bool) (t4_0:Int) (t4_1:Int) (t12:Int) (t13:Int):Option (DenL [.cx,.bool]):=rH Tryz.prog (envS [(201,mayS)]) (shOf shgread) Tryz.f193 [.cx,.bool] n 0 [(0,sy (.string (bs t0))),(2,Value.complex FloatKind.f64 0 0),(3,.bool t3),(4,.pointer (some ⟨10,0,none⟩)),(12,sy (.int .i64 t12)),(13,sy (.int .i64 t13))] [.row [sy (.int .i64 t4_0),sy (.int .i64 t4_1)] 305 false]
noncomputable def ogread (x:DenL [.str]):Option (DenL [.cx,.bool]):=fO Tryz.prog (envS [(201,mayS)]) (shOf shgread) Tryz.f193 [.str] [.cx,.bool] x
theorem egread_g (N:Nat) (x0:List UInt8):fON Tryz.prog (envS [(201,mayS)]) (shOf shgread) Tryz.f193 [.str] [.cx,.bool] N (x0,())=
 (bif (↑x0.length:Int) !=(8:Int) then
  (some ((0,0),false,()))
 else
  (hgread_0 N (x0) (false) ((0:Int)) ((0:Int)) ((↑x0.length:Int)) ((0:Int)))):=by kernel_rfl
theorem ogread_g (x:DenL [.str]):ogread x=fON Tryz.prog (envS [(201,mayS)]) (shOf shgread) Tryz.f193 [.str] [.cx,.bool] heads0 x:=rfl
theorem egread_0 (n:Nat) (t0:List UInt8) (t3:Bool) (t4_0:Int) (t4_1:Int) (t12:Int) (t13:Int):hgread_0 (n+1) t0 t3 t4_0 t4_1 t12 t13=
 (bif decide (t13<t12) then
  (gd [decide (inK .i64 (↑(t0.getD t13.toNat 0).toNat:Int)),decide ((0:Int)≤t13),decide (t13<(↑t0.length:Int))] (bif decide ((↑(t0.getD t13.toNat 0).toNat:Int)≥(48:Int)) then
   (bif decide ((↑(t0.getD t13.toNat 0).toNat:Int)≤(57:Int)) then
    (gd [decide (inK .i64 ((↑(t0.getD t13.toNat 0).toNat:Int)-(48:Int)))] (bif t13.tdiv ((4:Int))==(0:Int) then
     (bif t13.tdiv ((4:Int))==(0:Int) then
      (gd [decide (inK .i64 (t13+(1:Int))),decide (inK .i64 (t4_0*(16:Int)+((↑(t0.getD t13.toNat 0).toNat:Int)-(48:Int)))),decide (inK .i64 (t4_0*(16:Int))),decide (inK .i64 (t13.tdiv ((4:Int)))),decide (inK .i64 (t13.tdiv ((4:Int))))] (hgread_0 n (t0) (t3) (t4_0*(16:Int)+((↑(t0.getD t13.toNat 0).toNat:Int)-(48:Int))) (t4_1) (t12) (t13+(1:Int))))
     else
      (gd [decide (inK .i64 (t13+(1:Int))),decide (inK .i64 (t4_0*(16:Int)+((↑(t0.getD t13.toNat 0).toNat:Int)-(48:Int)))),decide (inK .i64 (t4_0*(16:Int))),decide (inK .i64 (t13.tdiv ((4:Int)))),decide (inK .i64 (t13.tdiv ((4:Int)))),t13.tdiv ((4:Int))==(1:Int)] (hgread_0 n (t0) (t3) (t4_0) (t4_0*(16:Int)+((↑(t0.getD t13.toNat 0).toNat:Int)-(48:Int))) (t12) (t13+(1:Int)))))
    else
     (gd [t13.tdiv ((4:Int))==(1:Int)] (bif t13.tdiv ((4:Int))==(0:Int) then
      (gd [decide (inK .i64 (t13+(1:Int))),decide (inK .i64 (t4_1*(16:Int)+((↑(t0.getD t13.toNat 0).toNat:Int)-(48:Int)))),decide (inK .i64 (t4_1*(16:Int))),decide (inK .i64 (t13.tdiv ((4:Int)))),decide (inK .i64 (t13.tdiv ((4:Int))))] (hgread_0 n (t0) (t3) (t4_1*(16:Int)+((↑(t0.getD t13.toNat 0).toNat:Int)-(48:Int))) (t4_1) (t12) (t13+(1:Int))))
     else
      (gd [decide (inK .i64 (t13+(1:Int))),decide (inK .i64 (t4_1*(16:Int)+((↑(t0.getD t13.toNat 0).toNat:Int)-(48:Int)))),decide (inK .i64 (t4_1*(16:Int))),decide (inK .i64 (t13.tdiv ((4:Int)))),decide (inK .i64 (t13.tdiv ((4:Int)))),t13.tdiv ((4:Int))==(1:Int)] (hgread_0 n (t0) (t3) (t4_0) (t4_1*(16:Int)+((↑(t0.getD t13.toNat 0).toNat:Int)-(48:Int))) (t12) (t13+(1:Int))))))))
   else
    (bif decide ((↑(t0.getD t13.toNat 0).toNat:Int)≥(97:Int)) then
     (bif decide ((↑(t0.getD t13.toNat 0).toNat:Int)≤(102:Int)) then
      (gd [decide (inK .i64 ((↑(t0.getD t13.toNat 0).toNat:Int)-(87:Int)))] (bif t13.tdiv ((4:Int))==(0:Int) then
       (bif t13.tdiv ((4:Int))==(0:Int) then
        (gd [decide (inK .i64 (t13+(1:Int))),decide (inK .i64 (t4_0*(16:Int)+((↑(t0.getD t13.toNat 0).toNat:Int)-(87:Int)))),decide (inK .i64 (t4_0*(16:Int))),decide (inK .i64 (t13.tdiv ((4:Int)))),decide (inK .i64 (t13.tdiv ((4:Int))))] (hgread_0 n (t0) (t3) (t4_0*(16:Int)+((↑(t0.getD t13.toNat 0).toNat:Int)-(87:Int))) (t4_1) (t12) (t13+(1:Int))))
       else
        (gd [decide (inK .i64 (t13+(1:Int))),decide (inK .i64 (t4_0*(16:Int)+((↑(t0.getD t13.toNat 0).toNat:Int)-(87:Int)))),decide (inK .i64 (t4_0*(16:Int))),decide (inK .i64 (t13.tdiv ((4:Int)))),decide (inK .i64 (t13.tdiv ((4:Int)))),t13.tdiv ((4:Int))==(1:Int)] (hgread_0 n (t0) (t3) (t4_0) (t4_0*(16:Int)+((↑(t0.getD t13.toNat 0).toNat:Int)-(87:Int))) (t12) (t13+(1:Int)))))
      else
       (gd [t13.tdiv ((4:Int))==(1:Int)] (bif t13.tdiv ((4:Int))==(0:Int) then
        (gd [decide (inK .i64 (t13+(1:Int))),decide (inK .i64 (t4_1*(16:Int)+((↑(t0.getD t13.toNat 0).toNat:Int)-(87:Int)))),decide (inK .i64 (t4_1*(16:Int))),decide (inK .i64 (t13.tdiv ((4:Int)))),decide (inK .i64 (t13.tdiv ((4:Int))))] (hgread_0 n (t0) (t3) (t4_1*(16:Int)+((↑(t0.getD t13.toNat 0).toNat:Int)-(87:Int))) (t4_1) (t12) (t13+(1:Int))))
       else
        (gd [decide (inK .i64 (t13+(1:Int))),decide (inK .i64 (t4_1*(16:Int)+((↑(t0.getD t13.toNat 0).toNat:Int)-(87:Int)))),decide (inK .i64 (t4_1*(16:Int))),decide (inK .i64 (t13.tdiv ((4:Int)))),decide (inK .i64 (t13.tdiv ((4:Int)))),t13.tdiv ((4:Int))==(1:Int)] (hgread_0 n (t0) (t3) (t4_0) (t4_1*(16:Int)+((↑(t0.getD t13.toNat 0).toNat:Int)-(87:Int))) (t12) (t13+(1:Int))))))))
     else
      (some ((0,0),false,())))
    else
     (some ((0,0),false,()))))
  else
   (bif decide ((↑(t0.getD t13.toNat 0).toNat:Int)≥(97:Int)) then
    (bif decide ((↑(t0.getD t13.toNat 0).toNat:Int)≤(102:Int)) then
     (gd [decide (inK .i64 ((↑(t0.getD t13.toNat 0).toNat:Int)-(87:Int)))] (bif t13.tdiv ((4:Int))==(0:Int) then
      (bif t13.tdiv ((4:Int))==(0:Int) then
       (gd [decide (inK .i64 (t13+(1:Int))),decide (inK .i64 (t4_0*(16:Int)+((↑(t0.getD t13.toNat 0).toNat:Int)-(87:Int)))),decide (inK .i64 (t4_0*(16:Int))),decide (inK .i64 (t13.tdiv ((4:Int)))),decide (inK .i64 (t13.tdiv ((4:Int))))] (hgread_0 n (t0) (t3) (t4_0*(16:Int)+((↑(t0.getD t13.toNat 0).toNat:Int)-(87:Int))) (t4_1) (t12) (t13+(1:Int))))
      else
       (gd [decide (inK .i64 (t13+(1:Int))),decide (inK .i64 (t4_0*(16:Int)+((↑(t0.getD t13.toNat 0).toNat:Int)-(87:Int)))),decide (inK .i64 (t4_0*(16:Int))),decide (inK .i64 (t13.tdiv ((4:Int)))),decide (inK .i64 (t13.tdiv ((4:Int)))),t13.tdiv ((4:Int))==(1:Int)] (hgread_0 n (t0) (t3) (t4_0) (t4_0*(16:Int)+((↑(t0.getD t13.toNat 0).toNat:Int)-(87:Int))) (t12) (t13+(1:Int)))))
     else
      (gd [t13.tdiv ((4:Int))==(1:Int)] (bif t13.tdiv ((4:Int))==(0:Int) then
       (gd [decide (inK .i64 (t13+(1:Int))),decide (inK .i64 (t4_1*(16:Int)+((↑(t0.getD t13.toNat 0).toNat:Int)-(87:Int)))),decide (inK .i64 (t4_1*(16:Int))),decide (inK .i64 (t13.tdiv ((4:Int)))),decide (inK .i64 (t13.tdiv ((4:Int))))] (hgread_0 n (t0) (t3) (t4_1*(16:Int)+((↑(t0.getD t13.toNat 0).toNat:Int)-(87:Int))) (t4_1) (t12) (t13+(1:Int))))
      else
       (gd [decide (inK .i64 (t13+(1:Int))),decide (inK .i64 (t4_1*(16:Int)+((↑(t0.getD t13.toNat 0).toNat:Int)-(87:Int)))),decide (inK .i64 (t4_1*(16:Int))),decide (inK .i64 (t13.tdiv ((4:Int)))),decide (inK .i64 (t13.tdiv ((4:Int)))),t13.tdiv ((4:Int))==(1:Int)] (hgread_0 n (t0) (t3) (t4_0) (t4_1*(16:Int)+((↑(t0.getD t13.toNat 0).toNat:Int)-(87:Int))) (t12) (t13+(1:Int))))))))
    else
     (some ((0,0),false,())))
   else
    (some ((0,0),false,())))))
 else
  (bif mayW (FloatKind.f64.nearest t4_0) (FloatKind.f64.nearest t4_1) then
   (gd [finW (FloatKind.f64.nearest t4_0)&&finW (FloatKind.f64.nearest t4_1)] (some ((FloatKind.f64.nearest t4_0,FloatKind.f64.nearest t4_1),true,())))
  else
   (gd [finW (FloatKind.f64.nearest t4_0)&&finW (FloatKind.f64.nearest t4_1)] (some ((0,0),false,()))))):=by kernel_rfl
end Go.Proofs.YtldllfocpadkeaaGreatDoor
namespace Nice
open Go Go.Eng
def InvZ (i:Nat) (a b:Int):Prop:=0≤a∧0≤b∧(i<4→a<16^i∧b=0)∧(4≤i→a<65536∧b<16^(i-4))
theorem invZ_0:InvZ 0 0 0:=⟨by omega,by omega,fun _=>⟨by decide,rfl⟩,fun h=>absurd h (by decide)⟩
theorem pow16 (i:Nat):(16:Int)^(i+1)=16*16^i:=by rw[Int.pow_succ,Int.mul_comm]
theorem pow16_le {i:Nat} (h:i≤3):(16:Int)^i≤4096:=by
 have:i=0∨i=1∨i=2∨i=3:=by omega
 rcases this with rfl|rfl|rfl|rfl<;>decide
theorem invZ_a {i:Nat} {a b v:Int} (h:InvZ i a b) (hi:i<4) (h0:0≤v) (h1:v≤15):InvZ (i+1) (a*16+v) b∧a*16+v≤65535:=by
 obtain⟨q1,q2,q3,q4⟩:=h;obtain⟨q5,q6⟩:=q3 hi;have:=pow16 i;have:=pow16_le (show i≤3 by omega);refine⟨⟨by omega,by omega,fun h=>⟨by omega,q6⟩,fun h=> ?_⟩,by omega⟩;have e:i=3:=by omega
 subst e;refine⟨by omega,?_⟩;rw[q6];decide
theorem invZ_b {i:Nat} {a b v:Int} (h:InvZ i a b) (hi:4≤i) (hi8:i<8) (h0:0≤v) (h1:v≤15):InvZ (i+1) a (b*16+v)∧b*16+v≤65535:=by
 obtain⟨q1,q2,q3,q4⟩:=h;obtain⟨q5,q6⟩:=q4 hi;have e:i+1-4=(i-4)+1:=by omega
 have:=pow16 (i-4);have:=pow16_le (show i-4≤3 by omega);exact⟨⟨q1,by omega,fun h=>by omega,fun _=>⟨q5,by rw[e];omega⟩⟩,by omega⟩
theorem invZ_8 {a b:Int} (h:InvZ 8 a b):0≤a∧a<65536∧0≤b∧b<65536:=by
 obtain⟨q1,q2,q3,q4⟩:=h;obtain⟨q5,q6⟩:=q4 (by decide);exact⟨q1,q5,q2,q6⟩
theorem isHx_iff {c:UInt8}:isHx c=true↔(48≤c.toNat∧c.toNat≤57∨97≤c.toNat∧c.toNat≤102):=by
 unfold isHx;rw[decide_eq_true_iff]
theorem may_n {a b:Int} (h1:0≤a) (h2:a<65536) (h3:0≤b) (h4:b<65536):(finW (FloatKind.f64.nearest a)&&finW (FloatKind.f64.nearest b))=true∧mayW (FloatKind.f64.nearest a) (FloatKind.f64.nearest b)=(decide (a<65521)&&decide (b<65521)):=by
 obtain⟨m,rfl⟩:∃m:Nat,a=(m:Int):=⟨a.toNat,by omega⟩
 obtain⟨k,rfl⟩:∃k:Nat,b=(k:Int):=⟨b.toNat,by omega⟩
 obtain⟨w1,w2⟩:=whole_n (n:=m) (by omega);obtain⟨w3,w4⟩:=whole_n (n:=k) (by omega);refine⟨by rw[w1,w3];rfl,?_⟩;have e1:decide (m<65521)=decide ((m:Int)<65521):=by rw[decide_eq_decide];omega
 have e2:decide (k<65521)=decide ((k:Int)<65521):=by rw[decide_eq_decide];omega
 unfold mayW;rw[w2,w4,e1,e2]
end Nice
namespace Go.Proofs.YtldllfocpadkeaaGreatDoor
open Go Go.Eng Nice
set_option maxRecDepth 100000
theorem whole_nn (x a b:Nat) (h:finW x=true):owhole (x,a,b,())=some (wholeW x a b,()):=by
 rw[owhole_g,ewhole_g];unfold wholeW;cases fRel .geq .f64 x a<;>cases fRel .leq .f64 x b<;>cases fRel .eql .f64 x (truncW x)<;>simp[gd,h]
theorem gmay_nn (z:Nat×Nat) (h:(finW z.1&&finW z.2)=true):ogmay (z,())=some (mayW z.1 z.2,()):=by
 rw[Bool.and_eq_true] at h;rw[ogmay_g,egmay_g];unfold mayW;cases wholeW z.1 0 4679237813814689792<;>cases wholeW z.2 0 4679237813814689792<;>simp[gd,h.1,h.2]
def zOut (z:Option (Int×Int)):Option (Int×Int):=match z with
 |some z=>bif decide (z.1<65521)&&decide (z.2<65521) then some z else none
 |none=>none
theorem tdiv4_0 {i:Nat} (h:i<4):((i:Int)).tdiv 4=0:=by
 rw[Int.tdiv_eq_ediv_of_nonneg (by omega)];omega
theorem tdiv4_1 {i:Nat} (h:4≤i) (h8:i<8):((i:Int)).tdiv 4=1:=by
 rw[Int.tdiv_eq_ediv_of_nonneg (by omega)];omega
theorem c00 {α:Type} {a b:α}:(bif ((0:Int)==(0:Int)) then a else b)=a:=by
 have h:((0:Int)==(0:Int))=true:=by decide
 rw[h,cond_true]
theorem c10 {α:Type} {a b:α}:(bif ((1:Int)==(0:Int)) then a else b)=b:=by
 have h:((1:Int)==(0:Int))=false:=by decide
 rw[h,cond_false]
theorem g11 {α:Type} {l:List Bool} {r:Option α}:gd (((1:Int)==(1:Int))::l) r=gd l r:=by
 have h:((1:Int)==(1:Int))=true:=by decide
 exact gdB h
theorem gZ {α:Type} {r:Option α}:gd [] r=r:=by cases r<;>rw[gd_nil]
theorem gread_l (s:List UInt8) (t3:Bool) (rest:List UInt8):∀(done:List UInt8) (n:Nat) (a b:Int),s=done++rest→done.length+rest.length=8→InvZ done.length a b→rest.length<n→
  hgread_0 n s t3 a b 8 (done.length:Int)=match zOut (rdF rest done.length a b) with
   |some z=>some ((FloatKind.f64.nearest z.1,FloatKind.f64.nearest z.2),true,())
   |none=>some ((0,0),false,()):=by
 induction rest with
 |nil=>
  intro done n a b hs he hv hn;obtain⟨m,rfl⟩:∃m,n=m+1:=⟨n-1,by omega⟩
  simp only[List.length_nil,Nat.add_zero] at he;rw[he] at hv;obtain⟨i1,i2,i3,i4⟩:=invZ_8 hv;obtain⟨w1,w2⟩:=may_n i1 i2 i3 i4;rw[egread_0,cdF (by omega),w2];simp only[rdF,zOut];cases hh:decide (a<65521)&&decide (b<65521)
  ·simp only[cond_false];rw[gdB w1,gZ]
  ·simp only[cond_true];rw[gdB w1,gZ]
 |cons c rest ihr=>
  intro done n a b hs he hv hn;obtain⟨m,rfl⟩:∃m,n=m+1:=⟨n-1,by omega⟩
  simp only[List.length_cons] at he hn;have hc:=c.toNat_lt;have ih:=fun a' b'=>ihr (done++[c]) m a' b' (by rw[hs];simp) (by simp;omega)
  simp only[List.length_append,List.length_singleton,Int.natCast_add] at ih;have hg:s.getD done.length 0=c:=by rw[hs,getD_mid]
  have hl:s.length=8:=by rw[hs];simp;omega
  rw[egread_0];simp only[hl,Int.toNat_natCast,hg];rw[cdT (by omega)];have key:∀v:Int,0≤v→v≤15→isHx c=true→hx c=v→(done.length<4→hgread_0 m s t3 (a*16+v) b 8 ((done.length:Int)+1)=match zOut (rdF (c::rest) done.length a b) with
    |some z=>some ((FloatKind.f64.nearest z.1,FloatKind.f64.nearest z.2),true,())
    |none=>some ((0,0),false,()))∧(4≤done.length→hgread_0 m s t3 a (b*16+v) 8 ((done.length:Int)+1)=match zOut (rdF (c::rest) done.length a b) with
    |some z=>some ((FloatKind.f64.nearest z.1,FloatKind.f64.nearest z.2),true,())
    |none=>some ((0,0),false,())):=by
   intro v h0 h1 hx1 hx2;simp only[rdF,hx1,cond_true,hx2];constructor
   ·intro hi;rw[cdT hi];exact ih _ _ (invZ_a hv hi h0 h1).1 (by omega)
   ·intro hi;rw[cdF (by omega)];exact ih _ _ (invZ_b hv hi (by omega) h0 h1).1 (by omega)
  have bad:isHx c=false→(match zOut (rdF (c::rest) done.length a b) with
    |some z=>some ((FloatKind.f64.nearest z.1,FloatKind.f64.nearest z.2),true,())
    |none=>some ((0,0),false,()):Option (DenL [.cx,.bool]))=some ((0,0),false,()):=by
   intro hx1;simp only[rdF,hx1,cond_false,zOut]
  by_cases h1:48≤c.toNat
  ·by_cases h2:c.toNat≤57
   ·obtain⟨k1,k2⟩:=key ((c.toNat:Int)-48) (by omega) (by omega) (isHx_iff.2 (.inl ⟨h1,h2⟩)) (by unfold hx;rw[cdT h2]);by_cases hi:done.length<4
    ·have hb:=(invZ_a hv hi (v:=(c.toNat:Int)-48) (by omega) (by omega)).2;have h0:=hv.1;simp only[tdiv4_0 hi,c00];simp(disch:=omega) only[cdT,gdT,gZ,inK_i64];exact k1 hi
    ·have hb:=(invZ_b hv (by omega) (by omega) (v:=(c.toNat:Int)-48) (by omega) (by omega)).2;have h0:=hv.2.1;simp only[tdiv4_1 (show 4≤done.length by omega) (by omega),c10,g11];simp(disch:=omega) only[cdT,gdT,gZ,inK_i64,g11];exact k2 (by omega)
   ·by_cases h3:97≤c.toNat∧c.toNat≤102
    ·obtain⟨k1,k2⟩:=key ((c.toNat:Int)-87) (by omega) (by omega) (isHx_iff.2 (.inr h3)) (by unfold hx;rw[cdF h2]);by_cases hi:done.length<4
     ·have hb:=(invZ_a hv hi (v:=(c.toNat:Int)-87) (by omega) (by omega)).2;have h0:=hv.1;simp only[tdiv4_0 hi,c00];simp(disch:=omega) only[cdT,cdF,gdT,gZ,inK_i64];exact k1 hi
     ·have hb:=(invZ_b hv (by omega) (by omega) (v:=(c.toNat:Int)-87) (by omega) (by omega)).2;have h0:=hv.2.1;simp only[tdiv4_1 (show 4≤done.length by omega) (by omega),c10,g11];simp(disch:=omega) only[cdT,cdF,gdT,gZ,inK_i64,g11];exact k2 (by omega)
    ·rw[bad (by cases hb:isHx c;rfl;have:=isHx_iff.1 hb;omega)];by_cases h4:97≤c.toNat
     ·simp(disch:=omega) only[cdT,cdF,gdT,gZ,inK_i64]
     ·simp(disch:=omega) only[cdT,cdF,gdT,gZ,inK_i64]
  ·rw[bad (by cases hb:isHx c;rfl;have:=isHx_iff.1 hb;omega)];simp(disch:=omega) only[cdT,cdF,gdT,gZ,inK_i64]
theorem gread_n (s:List UInt8):ogread (s,())=some ((gRead s).1,(gRead s).2,()):=by
 rw[ogread_g,egread_g];unfold gRead rdZ;by_cases h:s.length=8
 ·have e:((s.length:Int) !=8)=false:=by rw[h];rfl
  have e2:((s.length:Int))=8:=by omega
  rw[e,cond_false,decide_eq_true h,cond_true,e2];have:=gread_l s false s [] heads0 0 0 rfl (by simpa using h) invZ_0 (by unfold heads0;omega);refine this.trans ?_;show _=some ((match zOut (rdF s 0 0 0) with
   |some z=>((FloatKind.f64.nearest z.1,FloatKind.f64.nearest z.2),true)
   |none=>((0,0),false)).1,(match zOut (rdF s 0 0 0) with
   |some z=>((FloatKind.f64.nearest z.1,FloatKind.f64.nearest z.2),true)
   |none=>((0,0),false)).2,())
  show(match zOut (rdF s 0 0 0) with
   |some z=>some ((FloatKind.f64.nearest z.1,FloatKind.f64.nearest z.2),true,())
   |none=>some ((0,0),false,()))=_
  cases zOut (rdF s 0 0 0)<;>rfl
 ·have e:((s.length:Int) !=8)=true:=by simp;omega
  rw[e,cond_true,decide_eq_false h];rfl
end Go.Proofs.YtldllfocpadkeaaGreatDoor
