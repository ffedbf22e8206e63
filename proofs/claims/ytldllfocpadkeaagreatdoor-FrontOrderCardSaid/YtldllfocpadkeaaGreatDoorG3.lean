/-
  Part of the proof: PFl NiceT QT LM4 LM5 LS6 LS7 LS8 LS9. No condition.
-/
import Derived.Test.YtldllfocpadkeaaGreatDoorEng11
import Derived.Test.YtldllfocpadkeaaGreatDoorG1
import Derived.Test.YtldllfocpadkeaaGreatDoorSym
import Derived.Test.YtldllfocpadkeaaGreatDoorG2
namespace Nice
open Go Go.Eng
def finW (x:Nat):Bool:=match FloatKind.f64.decode x with
 | .nan _ _=>false
 |_=>true
def truncW (x:Nat):Nat:=FloatKind.f64.encode ((FloatKind.f64.decode x).integral .zero)
def wholeW (x a b:Nat):Bool:=fRel .geq .f64 x a&&(fRel .leq .f64 x b&&fRel .eql .f64 x (truncW x))
theorem log_le {n k:Nat} (h1:1≤n) (h2:n<2^(k+1)):n.log2≤k:=by
 have:=(Nat.log2_lt (by omega:n≠0)).2 h2;omega
theorem cut_zero (way:Ieee.Toward) (n:Nat):way.cut false n 0=n:=by
 unfold Ieee.Toward.cut;have e:(1<<<min 0 (n.log2+2):Nat)=1:=by rw[Nat.zero_min];rfl
 simp only[e,Nat.div_one,Nat.mod_one,Nat.mul_zero];cases way<;>simp
theorem word_false (f:Ieee.Format) (x:Nat):f.word false x=x:=rfl
theorem nearest_pos {n:Nat} (h1:1≤n) (h2:n<2^53):FloatKind.f64.nearest (n:Int)=(n.log2+1022)*2^52+n*2^(52-n.log2):=by
 have hL:=log_le h1 h2;have hlo:=Nat.log2_self_le (by omega:n≠0);have hhi:=(Nat.log2_lt (by omega:n≠0)).1 (Nat.lt_succ_self n.log2);have e0:decide ((n:Int)<0)=false:=by rw[decide_eq_false_iff_not];omega
 show Ieee.Format.nearest Ieee.double (decide ((n:Int)<0)) (n:Int).natAbs 0=_;rw[e0,Int.natAbs_natCast];unfold Ieee.Format.nearest;rw[if_neg (by omega)];have hlp:Ieee.double.leastPlace= -1074:=by decide
 have hmax:max ((0:Int)+n.log2-(Ieee.double.fractionBits:Nat)) Ieee.double.leastPlace=(n.log2:Int)-52:=by
  rw[hlp];show max ((0:Int)+n.log2-52) (-1074)=_;omega
 simp only[hmax];rw[hlp];have e1:((n.log2:Int)-52-0).toNat=0:=by omega
 have e2:((0:Int)-((n.log2:Int)-52)).toNat=52-n.log2:=by omega
 have e3:((n.log2:Int)-52- -1074).toNat=n.log2+1022:=by omega
 rw[e1,e2,e3,cut_zero,Nat.shiftLeft_eq];have hb:Ieee.double.binade=2^52:=rfl;have hi:Ieee.double.infRung=2047*2^52:=by decide
 rw[hb,hi];have hk:n*2^(52-n.log2)<2^53:=by
  calc n*2^(52-n.log2)<2^(n.log2+1)*2^(52-n.log2):=Nat.mul_lt_mul_of_pos_right hhi (Nat.two_pow_pos _)
   _=2^53:=by rw[←Nat.pow_add];congr 1;omega
 rw[word_false];apply Nat.min_eq_left;omega
theorem decode_nearest {n:Nat} (h1:1≤n) (h2:n<2^53):FloatKind.f64.decode (FloatKind.f64.nearest (n:Int))=.number false (n*2^(52-n.log2)) ((n.log2:Int)-52):=by
 have hL:=log_le h1 h2;have hlo:=Nat.log2_self_le (by omega:n≠0);have hhi:=(Nat.log2_lt (by omega:n≠0)).1 (Nat.lt_succ_self n.log2);rw[nearest_pos h1 h2];have hk:n*2^(52-n.log2)<2^53:=by
  calc n*2^(52-n.log2)<2^(n.log2+1)*2^(52-n.log2):=Nat.mul_lt_mul_of_pos_right hhi (Nat.two_pow_pos _)
   _=2^53:=by rw[←Nat.pow_add];congr 1;omega
 have hg:2^52≤n*2^(52-n.log2):=by
  calc 2^52=2^n.log2*2^(52-n.log2):=by rw[←Nat.pow_add];congr 1;omega
   _≤n*2^(52-n.log2):=Nat.mul_le_mul_right _ hlo
 generalize n*2^(52-n.log2)=m at hk hg⊢;have hs:Ieee.double.signWeight=2^63:=rfl;have hb:Ieee.double.binade=2^52:=rfl;have hi:Ieee.double.infRung=2047*2^52:=by decide
 have hlp:Ieee.double.leastPlace= -1074:=by decide
 show Ieee.Format.read Ieee.double ((n.log2+1022)*2^52+m)=_;unfold Ieee.Format.read;simp only[hs,hb,hi,hlp];have q1:((n.log2+1022)*2^52+m)/2^63%2=0:=by omega
 have q2:((n.log2+1022)*2^52+m)%2^63=(n.log2+1022)*2^52+m:=by omega
 rw[q1,q2,if_neg (by omega),if_pos (by omega)];have q3:2^52+((n.log2+1022)*2^52+m)%2^52=m:=by omega
 have q4:((n.log2+1022)*2^52+m)/2^52-1=n.log2+1022:=by omega
 rw[q3,q4];have q5:(-1074:Int)+((n.log2+1022:Nat):Int)=(n.log2:Int)-52:=by omega
 rw[q5];rfl
theorem trunc_nearest {n:Nat} (h1:1≤n) (h2:n<2^53):truncW (FloatKind.f64.nearest (n:Int))=FloatKind.f64.nearest (n:Int):=by
 have hL:=log_le h1 h2;unfold truncW;rw[decode_nearest h1 h2];unfold Ieee.Datum.integral Ieee.Toward.cut;have e1:((n.log2:Int)-52).toNat=0:=by omega
 have e2:(-((n.log2:Int)-52)).toNat=52-n.log2:=by omega
 simp only[e1,e2,Nat.shiftLeft_zero,Bool.toNat_false,Nat.add_zero];have hg:(1<<<min (52-n.log2) ((n*2^(52-n.log2)).log2+2):Nat)=2^(52-n.log2):=by
  rw[Nat.shiftLeft_eq,Nat.one_mul,Nat.min_eq_left];have:2^(52-n.log2)≤n*2^(52-n.log2):=Nat.le_mul_of_pos_left _ h1;have:=(Nat.le_log2 (Nat.ne_of_gt (Nat.lt_of_lt_of_le (Nat.two_pow_pos _) this))).2 this;omega
 rw[hg,Nat.mul_div_cancel _ (Nat.two_pow_pos _)];have e0:decide ((n:Int)<0)=false:=by rw[decide_eq_false_iff_not];omega
 show _=Ieee.Format.nearest Ieee.double (decide ((n:Int)<0)) (n:Int).natAbs 0;rw[e0,Int.natAbs_natCast];rfl
theorem order_self (s:Bool) (m:Nat) (i:Int):Ieee.Datum.order (.number s m i) (.number s m i)=some .eq:=by
 unfold Ieee.Datum.order;simp
theorem whole_n {n:Nat} (h:n<65536):finW (FloatKind.f64.nearest (n:Int))=true∧wholeW (FloatKind.f64.nearest (n:Int)) 0 4679237813814689792=decide (n<65521):=by
 rcases Nat.eq_zero_or_pos n with rfl|h1
 ·decide
 have h2:n<2^53:=by omega
 have hd:=decode_nearest h1 h2;have hL:n.log2≤15:=log_le h1 (by omega);refine⟨by unfold finW;rw[hd],?_⟩;have hz:FloatKind.f64.decode 0=.number false 0 (-1074):=by decide
 have hw:FloatKind.f64.decode 4679237813814689792=.number false (65520*2^37) (-37):=by decide
 have o1:FloatKind.f64.format.order (FloatKind.f64.nearest (n:Int)) 0=some .gt:=by
  show Ieee.Datum.order (FloatKind.f64.decode (FloatKind.f64.nearest (n:Int))) (FloatKind.f64.decode 0)=_;rw[hd,hz];unfold Ieee.Datum.order Ieee.signed;have hm:min ((n.log2:Int)-52) (-1074)= -1074:=by omega
  simp only[hm,Bool.false_eq_true,if_false,Nat.shiftLeft_eq,Nat.zero_mul];congr 1;rw[Int.compare_eq_gt];have:0<n*2^(52-n.log2)*2^((n.log2:Int)-52- -1074).toNat:=Nat.mul_pos (Nat.mul_pos h1 (Nat.two_pow_pos _)) (Nat.two_pow_pos _);omega
 have o2:FloatKind.f64.format.order (FloatKind.f64.nearest (n:Int)) 4679237813814689792=some (compare n 65520):=by
  show Ieee.Datum.order (FloatKind.f64.decode (FloatKind.f64.nearest (n:Int))) (FloatKind.f64.decode 4679237813814689792)=_;rw[hd,hw];unfold Ieee.Datum.order Ieee.signed;have hm:min ((n.log2:Int)-52) (-37)=(n.log2:Int)-52:=by omega
  have e1:((n.log2:Int)-52-((n.log2:Int)-52)).toNat=0:=by omega
  have e2:((-37:Int)-((n.log2:Int)-52)).toNat=15-n.log2:=by omega
  simp only[hm,e1,e2,Bool.false_eq_true,if_false,Nat.shiftLeft_eq,Nat.pow_zero,Nat.mul_one];have e3:65520*2^37*2^(15-n.log2)=65520*2^(52-n.log2):=by
   rw[Nat.mul_assoc,←Nat.pow_add];congr 2;omega
  rw[e3];congr 1;have hp:=Nat.two_pow_pos (52-n.log2);generalize 2^(52-n.log2)=q at hp;rcases Nat.lt_trichotomy n 65520 with hlt|heq|hgt
  ·rw[Nat.compare_eq_lt.2 hlt,Int.compare_eq_lt];exact Int.ofNat_lt.2 (Nat.mul_lt_mul_of_pos_right hlt hp)
  ·rw[Nat.compare_eq_eq.2 heq,Int.compare_eq_eq,heq]
  ·rw[Nat.compare_eq_gt.2 hgt,Int.compare_eq_gt];exact Int.ofNat_lt.2 (Nat.mul_lt_mul_of_pos_right hgt hp)
 have o3:FloatKind.f64.format.order (FloatKind.f64.nearest (n:Int)) (FloatKind.f64.nearest (n:Int))=some .eq:=by
  show Ieee.Datum.order (FloatKind.f64.decode (FloatKind.f64.nearest (n:Int))) (FloatKind.f64.decode (FloatKind.f64.nearest (n:Int)))=_;rw[hd,order_self]
 unfold wholeW fRel;simp only[trunc_nearest h1 h2,o1,o2,o3];rcases Nat.lt_trichotomy n 65520 with hlt|heq|hgt
 ·rw[Nat.compare_eq_lt.2 hlt,decide_eq_true (by omega:n<65521)];rfl
 ·rw[Nat.compare_eq_eq.2 heq,decide_eq_true (by omega:n<65521)];rfl
 ·rw[Nat.compare_eq_gt.2 hgt,decide_eq_false (by omega:¬n<65521)];rfl
end Nice
namespace Nice
open Go Go.Eng
def isHx (c:UInt8):Bool:=decide (48≤c.toNat∧c.toNat≤57∨97≤c.toNat∧c.toNat≤102)
def hx (c:UInt8):Int:=bif decide (c.toNat≤57) then(c.toNat:Int)-48 else(c.toNat:Int)-87
def rdF:List UInt8→Nat→Int→Int→Option (Int×Int)
 |[],_,a,b=>some (a,b)
 |c::r,i,a,b=>bif isHx c then(bif decide (i<4) then rdF r (i+1) (a*16+hx c) b else rdF r (i+1) a (b*16+hx c)) else none
def rdZ (s:List UInt8):Option (Int×Int):=bif decide (s.length=8) then(match rdF s 0 0 0 with
 |some z=>bif decide (z.1<65521)&&decide (z.2<65521) then some z else none
 |none=>none) else none
def gRead (s:List UInt8):(Nat×Nat)×Bool:=match rdZ s with
 |some z=>((FloatKind.f64.nearest z.1,FloatKind.f64.nearest z.2),true)
 |none=>((0,0),false)
def mayW (a b:Nat):Bool:=wholeW a 0 4679237813814689792&&wholeW b 0 4679237813814689792
noncomputable def archS:PSpec:=⟨[.f64],[.f64],fun x=>finW x.1,fun x=>(truncW x.1,())⟩
noncomputable def wholeS:PSpec:=⟨[.f64,.f64,.f64],[.bool],fun x=>finW x.1,fun x=>(wholeW x.1 x.2.1 x.2.2.1,())⟩
noncomputable def mayS:PSpec:=⟨[.cx],[.bool],fun x=>finW x.1.1&&finW x.1.2,fun x=>(mayW x.1.1 x.1.2,())⟩
noncomputable def gReadS:PSpec:=⟨[.str],[.cx,.bool],fun _=>true,fun x=>((gRead x.1).1,(gRead x.1).2,())⟩
end Nice
namespace Go.Proofs.YtldllfocpadkeaaGreatDoor
open Go Go.Eng Nice
set_option maxRecDepth 1000000
abbrev shwhole:List (Nat×List (Nat×Sh)):=[]
noncomputable def owhole (x:DenL [.f64,.f64,.f64]):Option (DenL [.bool]):=fO Tryz.prog (envS [(318,archS)]) (shOf shwhole) Tryz.f269 [.f64,.f64,.f64] [.bool] x
theorem ewhole_g (N:Nat) (x0 x1 x2:Nat):fON Tryz.prog (envS [(318,archS)]) (shOf shwhole) Tryz.f269 [.f64,.f64,.f64] [.bool] N (x0,x1,x2,())=
 (bif fRel BinOp.geq FloatKind.f64 x0 x1 then
  (bif fRel BinOp.leq FloatKind.f64 x0 x2 then
   (bif fRel BinOp.eql FloatKind.f64 x0 (truncW x0) then
    (gd [finW x0] (some (true,())))
   else
    (gd [finW x0] (some (false,()))))
  else
   (some (false,())))
 else
  (some (false,()))):=by kernel_rfl
theorem owhole_g (x:DenL [.f64,.f64,.f64]):owhole x=fON Tryz.prog (envS [(318,archS)]) (shOf shwhole) Tryz.f269 [.f64,.f64,.f64] [.bool] heads0 x:=rfl
abbrev shgmay:List (Nat×List (Nat×Sh)):=[]
noncomputable def ogmay (x:DenL [.cx]):Option (DenL [.bool]):=fO Tryz.prog (envS [(269,wholeS)]) (shOf shgmay) Tryz.f201 [.cx] [.bool] x
theorem egmay_g (N:Nat) (x0:Nat×Nat):fON Tryz.prog (envS [(269,wholeS)]) (shOf shgmay) Tryz.f201 [.cx] [.bool] N (x0,())=
 (bif wholeW x0.fst 0 4679237813814689792 then
  (bif wholeW x0.snd 0 4679237813814689792 then
   (gd [finW x0.snd,finW x0.fst] (some (true,())))
  else
   (gd [finW x0.snd,finW x0.fst] (some (false,()))))
 else
  (gd [finW x0.fst] (some (false,())))):=by kernel_rfl
theorem ogmay_g (x:DenL [.cx]):ogmay x=fON Tryz.prog (envS [(269,wholeS)]) (shOf shgmay) Tryz.f201 [.cx] [.bool] heads0 x:=rfl
abbrev shgread:List (Nat×List (Nat×Sh)):=[(5,[(0,(.one .sym)),(2,(.one .any)),(3,(.one .sym)),(4,(.obj [.sym,.sym])),(12,(.one .sym)),(13,(.one .sym))])]
noncomputable def hgread_0 (n:Nat) (t0:List UInt8) (t3:Bool) (t4_0:Int) (t4_1:Int) (t12:Int) (t13:Int):Option (DenL [.cx,.bool]):=rH Tryz.prog (envS [(201,mayS)]) (shOf shgread) Tryz.f193 [.cx,.bool] n 0 [(0,sy (.string (bs t0))),(2,Value.complex FloatKind.f64 0 0),(3,.bool t3),(4,.pointer (some ⟨10,0,none⟩)),(12,sy (.int .i64 t12)),(13,sy (.int .i64 t13))] [.row [sy (.int .i64 t4_0),sy (.int .i64 t4_1)] 305 false]
noncomputable def ogread (x:DenL [.str]):Option (DenL [.cx,.bool]):=fO Tryz.prog (envS [(201,mayS)]) (shOf shgread) Tryz.f193 [.str] [.cx,.bool] x
theorem egread_g (N:Nat) (x0:List UInt8):fON Tryz.prog (envS [(201,mayS)]) (shOf shgread) Tryz.f193 [.str] [.cx,.bool] N (x0,())=
 (bif (↑x0.length:Int) !=(8:Int) then
  (some ((0,0),false,()))
 else
  (hgread_0 N (x0) (false) ((0:Int)) ((0:Int)) ((↑x0.length:Int)) ((0:Int)))):=by kernel_rfl
theorem ogread_g (x:DenL [.str]):ogread x=fON Tryz.prog (envS [(201,mayS)]) (shOf shgread) Tryz.f193 [.str] [.cx,.bool] heads0 x:=rfl
theorem egread_0 (n:Nat) (t0:List UInt8) (t3:Bool) (t4_0:Int) (t4_1:Int) (t12:Int) (t13:Int):hgread_0 (n+1) t0 t3 t4_0 t4_1 t12 t13=
 (bif decide (t13<t12) then
  (gd [decide (inK .i64 (↑(t0.getD t13.toNat 0).toNat:Int)),decide ((0:Int)≤t13),decide (t13<(↑t0.length:Int))] (bif decide ((↑(t0.getD t13.toNat 0).toNat:Int)≥(48:Int)) then
   (bif decide ((↑(t0.getD t13.toNat 0).toNat:Int)≤(57:Int)) then
    (gd [decide (inK .i64 ((↑(t0.getD t13.toNat 0).toNat:Int)-(48:Int)))] (bif t13.tdiv ((4:Int))==(0:Int) then
     (bif t13.tdiv ((4:Int))==(0:Int) then
      (gd [decide (inK .i64 (t13+(1:Int))),decide (inK .i64 (t4_0*(16:Int)+((↑(t0.getD t13.toNat 0).toNat:Int)-(48:Int)))),decide (inK .i64 (t4_0*(16:Int))),decide (inK .i64 (t13.tdiv ((4:Int)))),decide (inK .i64 (t13.tdiv ((4:Int))))] (hgread_0 n (t0) (t3) (t4_0*(16:Int)+((↑(t0.getD t13.toNat 0).toNat:Int)-(48:Int))) (t4_1) (t12) (t13+(1:Int))))
     else
      (gd [decide (inK .i64 (t13+(1:Int))),decide (inK .i64 (t4_0*(16:Int)+((↑(t0.getD t13.toNat 0).toNat:Int)-(48:Int)))),decide (inK .i64 (t4_0*(16:Int))),decide (inK .i64 (t13.tdiv ((4:Int)))),decide (inK .i64 (t13.tdiv ((4:Int)))),t13.tdiv ((4:Int))==(1:Int)] (hgread_0 n (t0) (t3) (t4_0) (t4_0*(16:Int)+((↑(t0.getD t13.toNat 0).toNat:Int)-(48:Int))) (t12) (t13+(1:Int)))))
    else
     (gd [t13.tdiv ((4:Int))==(1:Int)] (bif t13.tdiv ((4:Int))==(0:Int) then
      (gd [decide (inK .i64 (t13+(1:Int))),decide (inK .i64 (t4_1*(16:Int)+((↑(t0.getD t13.toNat 0).toNat:Int)-(48:Int)))),decide (inK .i64 (t4_1*(16:Int))),decide (inK .i64 (t13.tdiv ((4:Int)))),decide (inK .i64 (t13.tdiv ((4:Int))))] (hgread_0 n (t0) (t3) (t4_1*(16:Int)+((↑(t0.getD t13.toNat 0).toNat:Int)-(48:Int))) (t4_1) (t12) (t13+(1:Int))))
     else
      (gd [decide (inK .i64 (t13+(1:Int))),decide (inK .i64 (t4_1*(16:Int)+((↑(t0.getD t13.toNat 0).toNat:Int)-(48:Int)))),decide (inK .i64 (t4_1*(16:Int))),decide (inK .i64 (t13.tdiv ((4:Int)))),decide (inK .i64 (t13.tdiv ((4:Int)))),t13.tdiv ((4:Int))==(1:Int)] (hgread_0 n (t0) (t3) (t4_0) (t4_1*(16:Int)+((↑(t0.getD t13.toNat 0).toNat:Int)-(48:Int))) (t12) (t13+(1:Int))))))))
   else
    (bif decide ((↑(t0.getD t13.toNat 0).toNat:Int)≥(97:Int)) then
     (bif decide ((↑(t0.getD t13.toNat 0).toNat:Int)≤(102:Int)) then
      (gd [decide (inK .i64 ((↑(t0.getD t13.toNat 0).toNat:Int)-(87:Int)))] (bif t13.tdiv ((4:Int))==(0:Int) then
       (bif t13.tdiv ((4:Int))==(0:Int) then
        (gd [decide (inK .i64 (t13+(1:Int))),decide (inK .i64 (t4_0*(16:Int)+((↑(t0.getD t13.toNat 0).toNat:Int)-(87:Int)))),decide (inK .i64 (t4_0*(16:Int))),decide (inK .i64 (t13.tdiv ((4:Int)))),decide (inK .i64 (t13.tdiv ((4:Int))))] (hgread_0 n (t0) (t3) (t4_0*(16:Int)+((↑(t0.getD t13.toNat 0).toNat:Int)-(87:Int))) (t4_1) (t12) (t13+(1:Int))))
       else
        (gd [decide (inK .i64 (t13+(1:Int))),decide (inK .i64 (t4_0*(16:Int)+((↑(t0.getD t13.toNat 0).toNat:Int)-(87:Int)))),decide (inK .i64 (t4_0*(16:Int))),decide (inK .i64 (t13.tdiv ((4:Int)))),decide (inK .i64 (t13.tdiv ((4:Int)))),t13.tdiv ((4:Int))==(1:Int)] (hgread_0 n (t0) (t3) (t4_0) (t4_0*(16:Int)+((↑(t0.getD t13.toNat 0).toNat:Int)-(87:Int))) (t12) (t13+(1:Int)))))
      else
       (gd [t13.tdiv ((4:Int))==(1:Int)] (bif t13.tdiv ((4:Int))==(0:Int) then
        (gd [decide (inK .i64 (t13+(1:Int))),decide (inK .i64 (t4_1*(16:Int)+((↑(t0.getD t13.toNat 0).toNat:Int)-(87:Int)))),decide (inK .i64 (t4_1*(16:Int))),decide (inK .i64 (t13.tdiv ((4:Int)))),decide (inK .i64 (t13.tdiv ((4:Int))))] (hgread_0 n (t0) (t3) (t4_1*(16:Int)+((↑(t0.getD t13.toNat 0).toNat:Int)-(87:Int))) (t4_1) (t12) (t13+(1:Int))))
       else
        (gd [decide (inK .i64 (t13+(1:Int))),decide (inK .i64 (t4_1*(16:Int)+((↑(t0.getD t13.toNat 0).toNat:Int)-(87:Int)))),decide (inK .i64 (t4_1*(16:Int))),decide (inK .i64 (t13.tdiv ((4:Int)))),decide (inK .i64 (t13.tdiv ((4:Int)))),t13.tdiv ((4:Int))==(1:Int)] (hgread_0 n (t0) (t3) (t4_0) (t4_1*(16:Int)+((↑(t0.getD t13.toNat 0).toNat:Int)-(87:Int))) (t12) (t13+(1:Int))))))))
     else
      (some ((0,0),false,())))
    else
     (some ((0,0),false,()))))
  else
   (bif decide ((↑(t0.getD t13.toNat 0).toNat:Int)≥(97:Int)) then
    (bif decide ((↑(t0.getD t13.toNat 0).toNat:Int)≤(102:Int)) then
     (gd [decide (inK .i64 ((↑(t0.getD t13.toNat 0).toNat:Int)-(87:Int)))] (bif t13.tdiv ((4:Int))==(0:Int) then
      (bif t13.tdiv ((4:Int))==(0:Int) then
       (gd [decide (inK .i64 (t13+(1:Int))),decide (inK .i64 (t4_0*(16:Int)+((↑(t0.getD t13.toNat 0).toNat:Int)-(87:Int)))),decide (inK .i64 (t4_0*(16:Int))),decide (inK .i64 (t13.tdiv ((4:Int)))),decide (inK .i64 (t13.tdiv ((4:Int))))] (hgread_0 n (t0) (t3) (t4_0*(16:Int)+((↑(t0.getD t13.toNat 0).toNat:Int)-(87:Int))) (t4_1) (t12) (t13+(1:Int))))
      else
       (gd [decide (inK .i64 (t13+(1:Int))),decide (inK .i64 (t4_0*(16:Int)+((↑(t0.getD t13.toNat 0).toNat:Int)-(87:Int)))),decide (inK .i64 (t4_0*(16:Int))),decide (inK .i64 (t13.tdiv ((4:Int)))),decide (inK .i64 (t13.tdiv ((4:Int)))),t13.tdiv ((4:Int))==(1:Int)] (hgread_0 n (t0) (t3) (t4_0) (t4_0*(16:Int)+((↑(t0.getD t13.toNat 0).toNat:Int)-(87:Int))) (t12) (t13+(1:Int)))))
     else
      (gd [t13.tdiv ((4:Int))==(1:Int)] (bif t13.tdiv ((4:Int))==(0:Int) then
       (gd [decide (inK .i64 (t13+(1:Int))),decide (inK .i64 (t4_1*(16:Int)+((↑(t0.getD t13.toNat 0).toNat:Int)-(87:Int)))),decide (inK .i64 (t4_1*(16:Int))),decide (inK .i64 (t13.tdiv ((4:Int)))),decide (inK .i64 (t13.tdiv ((4:Int))))] (hgread_0 n (t0) (t3) (t4_1*(16:Int)+((↑(t0.getD t13.toNat 0).toNat:Int)-(87:Int))) (t4_1) (t12) (t13+(1:Int))))
      else
       (gd [decide (inK .i64 (t13+(1:Int))),decide (inK .i64 (t4_1*(16:Int)+((↑(t0.getD t13.toNat 0).toNat:Int)-(87:Int)))),decide (inK .i64 (t4_1*(16:Int))),decide (inK .i64 (t13.tdiv ((4:Int)))),decide (inK .i64 (t13.tdiv ((4:Int)))),t13.tdiv ((4:Int))==(1:Int)] (hgread_0 n (t0) (t3) (t4_0) (t4_1*(16:Int)+((↑(t0.getD t13.toNat 0).toNat:Int)-(87:Int))) (t12) (t13+(1:Int))))))))
    else
     (some ((0,0),false,())))
   else
    (some ((0,0),false,())))))
 else
  (bif mayW (FloatKind.f64.nearest t4_0) (FloatKind.f64.nearest t4_1) then
   (gd [finW (FloatKind.f64.nearest t4_0)&&finW (FloatKind.f64.nearest t4_1)] (some ((FloatKind.f64.nearest t4_0,FloatKind.f64.nearest t4_1),true,())))
  else
   (gd [finW (FloatKind.f64.nearest t4_0)&&finW (FloatKind.f64.nearest t4_1)] (some ((0,0),false,()))))):=by kernel_rfl
end Go.Proofs.YtldllfocpadkeaaGreatDoor
namespace Nice
open Go Go.Eng
structure InvX (K:Nat) (x:ScanD):Prop where
 st0:0≤x.1
 st9:x.1≤9
 li0:0≤x.2.2.1
 li1:x.2.2.1≤K
 at0:0≤x.2.2.2.1
 at1:x.2.2.2.1≤8
 tx1:x.2.2.2.2.1.length≤K
 hs1:x.2.2.2.2.2.1.2.2.2.1.length≤K
 hs2:∀h,h∈x.2.2.2.2.2.1.2.2.2.1→h.1.length≤K∧h.2.1.length≤K
 hs6:x.1=6→0<x.2.2.2.2.2.1.2.2.2.1.length
 le0: -(K:Int)≤x.2.2.2.2.2.2.1
 le1:x.2.2.2.2.2.2.1≤1000
 ou1:x.2.2.2.2.2.2.2.1.length≤K
theorem trimL_le (s:List UInt8):(trimL s).length≤s.length:=(List.dropWhile_suffix _).length_le
theorem trimR_le (s:List UInt8):(trimR s).length≤s.length:=by
 have:=(List.dropWhile_suffix (l:=s.reverse) isSp).length_le;simpa[trimR] using this
theorem scanLen_nn (hs:List HeadD) (h:mOut hs=0):0≤scanLen hs:=by
 obtain⟨e1,e2⟩:=mOut_ref hs;rw[e2 (by rw[←e1,h];decide)];exact refLen_nn hs
section
variable {K:Nat} {st su li at':Int} {tx m p q:List UInt8} {hs:List HeadD} {b:List UInt8} {le:Int} {ou:List ReqD}
theorem InvX.mk' (i:InvX K (st,su,li,at',tx,(m,p,q,hs,b,()),le,ou,())) {st' su' li' at2:Int} {tx' m' p' q':List UInt8} {hs':List HeadD} {b':List UInt8} {le':Int} {ou':List ReqD}
  (a1:0≤st'∧st'≤9) (a2:li'=li∨li'=li+1∨li'=0) (a3:0≤at2∧at2≤8) (a4:tx'.length≤tx.length+1)
  (a5:hs'.length≤hs.length+1) (a6:∀h,h∈hs'→h∈hs∨(h.1.length≤K+1∧h.2.1.length≤K+1)) (a7:st'=6→0<hs'.length) (a8:le'=le∨le'=le-1∨(0≤le'∧le'≤300)) (a9:ou'.length≤ou.length+1):
  InvX (K+1) (st',su',li',at2,tx',(m',p',q',hs',b',()),le',ou',()):=by
 obtain⟨j1,j2,j3,j4,j5,j6,j7,j8,j9,j10,j11,j12,j13⟩:=i;simp only at j1 j2 j3 j4 j5 j6 j7 j8 j9 j10 j11 j12 j13;refine⟨a1.1,a1.2,?_,?_,a3.1,a3.2,?_,?_,?_,a7,?_,?_,?_⟩<;>simp only
 ·omega
 ·omega
 ·omega
 ·omega
 ·intro h hh;rcases a6 h hh with h'|h'
  ·have:=j9 h h';omega
  ·exact h'
 ·omega
 ·omega
 ·omega
theorem inv_hdN (i:InvX K (8,su,li,at',tx,(m,p,q,hs,b,()),le,ou,())) (hz:(hdN su 0 at' tx m p q hs b le ou).2=0):InvX (K+1) (hdN su 0 at' tx m p q hs b le ou).1:=by
 have hm:mOut hs=0→0≤scanLen hs:=scanLen_nn hs;unfold mOut at hm;unfold hdN at hz⊢
 revert hz hm
 cases mHeads hs 0 with
 |none=>exact fun h _=>absurd h (show ¬(400:Int)=0 by decide)
 |some k=>
  simp only;by_cases h1:1<k
  ·simp only[if_pos h1];exact fun h _=>absurd h (show ¬(400:Int)=0 by decide)
  simp only[if_neg h1];by_cases h2:scanLen hs>300
  ·simp only[if_pos h2];exact fun h _=>absurd h (show ¬(413:Int)=0 by decide)
  simp only[if_neg h2];intro hz hm;have:=hm trivial;by_cases h3:scanLen hs=0
  ·simp only[if_pos h3];exact i.mk' (by omega) (.inr (.inr rfl)) ⟨i.at0,i.at1⟩ (by simp) (by simp) (fun h hh=>by simp at hh) (by omega) (.inr (.inr ⟨by omega,by omega⟩)) (by simp)
  ·simp only[if_neg h3];exact i.mk' (by omega) (.inr (.inr rfl)) ⟨i.at0,i.at1⟩ (by omega) (by omega) (fun h hh=>.inl hh) (by omega) (.inr (.inr ⟨by omega,by omega⟩)) (by omega)
theorem mem_set {α:Type} {l:List α} {n:Nat} {a b:α} (h:b∈l.set n a):b∈l∨b=a:=List.mem_or_eq_of_mem_set h
theorem hd_mem (hs:List HeadD) (i:InvX K (6,su,li,at',tx,(m,p,q,hs,b,()),le,ou,())):(hs.getD (hs.length-1) ([],[],())).1.length≤K:=by
 by_cases h:hs.length-1<hs.length
 ·have e:hs.getD (hs.length-1) ([],[],())=hs[hs.length-1]:=by simp[h]
  rw[e];exact(i.hs2 _ (List.getElem_mem h)).1
 ·have e:hs.getD (hs.length-1) ([],[],())=([],[],()):=by simp[List.getD,h]
  rw[e];exact Nat.zero_le _
theorem inv_lnN (i:InvX K (st,su,li,at',tx,(m,p,q,hs,b,()),le,ou,())) (c:UInt8) (h48:4≤st∧st≤8) (hz:(lnN st su li at' tx m p q hs b le ou c).2=0):InvX (K+1) (lnN st su li at' tx m p q hs b le ou c).1:=by
 have t1:tx.length≤K:=i.tx1;have e4:¬(400:Int)=0:=by decide
 unfold lnN at hz⊢;by_cases h1:st=4∨st=7
 ·simp only[if_pos h1] at hz⊢;by_cases h2:c.toNat=10
  ·simp only[if_pos h2];exact i.mk' (by omega) (.inr (.inr rfl)) ⟨i.at0,i.at1⟩ (by omega) (by omega) (fun h hh=>.inl hh) (by omega) (.inl rfl) (by omega)
  ·simp only[if_neg h2] at hz;exact absurd hz e4
 simp only[if_neg h1] at hz⊢;by_cases h8:st=8
 ·simp only[if_pos h8] at hz⊢;by_cases h2:c.toNat=10
  ·simp only[if_pos h2] at hz⊢;subst h8;exact inv_hdN i hz
  ·simp only[if_neg h2] at hz;exact absurd hz e4
 simp only[if_neg h8] at hz⊢;by_cases h6:st=6
 ·simp only[if_pos h6] at hz⊢;subst h6;by_cases h2:c.toNat=13
  ·simp only[if_pos h2];refine i.mk' (by omega) (.inl rfl) ⟨i.at0,i.at1⟩ (by simp) (by simp) (fun h hh=> ?_) (by omega) (.inl rfl) (by omega);rcases mem_set hh with hh|rfl
   ·exact .inl hh
   ·refine .inr ⟨?_,?_⟩
    ·have:=hd_mem hs i;simp only;omega
    ·have a:=trimL_le (trimR tx);have b:=trimR_le tx;simp only;omega
  simp only[if_neg h2] at hz⊢;by_cases h3:32≤c.toNat∧c.toNat≤126∨c.toNat=9
  ·simp only[if_pos h3];exact i.mk' (by omega) (.inr (.inl rfl)) ⟨i.at0,i.at1⟩ (by simp) (by omega) (fun h hh=>.inl hh) (fun _=>i.hs6 rfl) (.inl rfl) (by omega)
  ·simp only[if_neg h3] at hz;exact absurd hz e4
 simp only[if_neg h6] at hz⊢;by_cases h2:c.toNat=13∧li=0
 ·simp only[if_pos h2];exact i.mk' (by omega) (.inl rfl) ⟨i.at0,i.at1⟩ (by omega) (by omega) (fun h hh=>.inl hh) (by omega) (.inl rfl) (by omega)
 simp only[if_neg h2] at hz⊢;by_cases h3:c.toNat=58∧li>0
 ·simp only[if_pos h3];refine i.mk' (by omega) (.inr (.inl rfl)) ⟨i.at0,i.at1⟩ (by simp) (by simp) (fun h hh=> ?_) (fun _=>by simp) (.inl rfl) (by omega);rcases List.mem_append.1 hh with hh|hh
  ·exact .inl hh
  ·simp only[List.mem_cons,List.not_mem_nil,or_false] at hh;subst hh;exact .inr ⟨by simp only;omega,by simp⟩
 simp only[if_neg h3] at hz⊢;by_cases h4:isTok c=true
 ·simp only[if_pos h4];exact i.mk' (by omega) (.inr (.inl rfl)) ⟨i.at0,i.at1⟩ (by simp) (by omega) (fun h hh=>.inl hh) (by omega) (.inl rfl) (by omega)
 ·simp only[if_neg h4] at hz;exact absurd hz e4
theorem inv_mst (i:InvX K (st,su,li,at',tx,(m,p,q,hs,b,()),le,ou,())) (c:UInt8) (hz:(mst st su li at' tx m p q hs b le ou c).2=0):InvX (K+1) (mst st su li at' tx m p q hs b le ou c).1:=by
 have t1:tx.length≤K:=i.tx1;have s0:0≤st:=i.st0;have s9:st≤9:=i.st9;have e4:¬(400:Int)=0:=by decide
 have a01:0≤at'∧at'≤8:=⟨i.at0,i.at1⟩
 have r1:∀(st' li':Int) (tx' m' p' q':List UInt8),0≤st'→st'≤9→st'≠6→(li'=li∨li'=li+1)→tx'.length≤tx.length+1→InvX (K+1) (st',su,li',at',tx',(m',p',q',hs,b,()),le,ou,()):=
  fun st' li' tx' m' p' q' b1 b2 b3 b4 b5=>i.mk' ⟨b1,b2⟩ (by omega) a01 b5 (by omega) (fun h hh=>.inl hh) (fun h=>absurd h b3) (.inl rfl) (by omega)
 unfold mst at hz⊢;by_cases hl:longN (st,su,li,at',tx,(m,p,q,hs,b,()),le,ou,()) c≠0
 ·rw[if_pos hl] at hz;exact absurd hz hl
 simp only[if_neg hl] at hz⊢;by_cases h0:st=0
 ·simp only[if_pos h0] at hz⊢;by_cases h1:isCap c=true∧li<10
  ·simp only[if_pos h1];exact r1 _ _ _ _ _ _ (by omega) (by omega) (by omega) (by omega) (by simp)
  simp only[if_neg h1] at hz⊢;by_cases h2:c.toNat=32∧li>0
  ·simp only[if_pos h2];exact r1 _ _ _ _ _ _ (by omega) (by omega) (by omega) (by omega) (by simp)
  ·simp only[if_neg h2] at hz;exact absurd hz e4
 simp only[if_neg h0] at hz⊢;by_cases h1:st=1
 ·simp only[if_pos h1] at hz⊢;by_cases h2:tx.length=0∧c.toNat≠47
  ·simp only[if_pos h2] at hz;exact absurd hz e4
  simp only[if_neg h2] at hz⊢;by_cases h3:c.toNat=63
  ·simp only[if_pos h3];exact r1 _ _ _ _ _ _ (by omega) (by omega) (by omega) (by omega) (by simp)
  simp only[if_neg h3] at hz⊢;by_cases h4:c.toNat=32
  ·simp only[if_pos h4];exact r1 _ _ _ _ _ _ (by omega) (by omega) (by omega) (by omega) (by simp)
  simp only[if_neg h4] at hz⊢;by_cases h5:isVis c=true
  ·simp only[if_pos h5];exact r1 _ _ _ _ _ _ (by omega) (by omega) (by omega) (by omega) (by simp)
  ·simp only[if_neg h5] at hz;exact absurd hz e4
 simp only[if_neg h1] at hz⊢;by_cases h2:st=2
 ·simp only[if_pos h2] at hz⊢;by_cases h4:c.toNat=32
  ·simp only[if_pos h4];exact r1 _ _ _ _ _ _ (by omega) (by omega) (by omega) (by omega) (by simp)
  simp only[if_neg h4] at hz⊢;by_cases h5:isVis c=true
  ·simp only[if_pos h5];exact r1 _ _ _ _ _ _ (by omega) (by omega) (by omega) (by omega) (by simp)
  ·simp only[if_neg h5] at hz;exact absurd hz e4
 simp only[if_neg h2] at hz⊢;by_cases h3:st=3
 ·simp only[if_pos h3] at hz⊢;by_cases h8:at'=8
  ·simp only[if_pos h8] at hz⊢;by_cases h4:c.toNat=13
   ·simp only[if_pos h4];exact i.mk' (by omega) (.inl rfl) (by omega) (by omega) (by omega) (fun h hh=>.inl hh) (by omega) (.inl rfl) (by omega)
   ·simp only[if_neg h4] at hz;exact absurd hz e4
  simp only[if_neg h8] at hz⊢;by_cases h4:c.toNat=(verB.getD at'.toNat 0).toNat
  ·simp only[if_pos h4];exact i.mk' (by omega) (.inr (.inl rfl)) (by omega) (by omega) (by omega) (fun h hh=>.inl hh) (by omega) (.inl rfl) (by omega)
  ·simp only[if_neg h4] at hz;exact absurd hz e4
 simp only[if_neg h3] at hz⊢;by_cases h9:st=9
 ·simp only[if_pos h9] at hz⊢;by_cases h4:le-1=0
  ·simp only[if_pos h4];exact i.mk' (by omega) (.inl rfl) (by omega) (by simp) (by simp) (fun h hh=>by simp at hh) (by omega) (.inr (.inl rfl)) (by simp)
  ·simp only[if_neg h4];exact i.mk' (by omega) (.inl rfl) (by omega) (by simp) (by omega) (fun h hh=>.inl hh) (by omega) (.inr (.inl rfl)) (by omega)
 simp only[if_neg h9] at hz⊢;exact inv_lnN i c (by omega) hz
end
theorem InvX.ok {K:Nat} {st su li at':Int} {tx m p q:List UInt8} {hs:List HeadD} {b:List UInt8} {le:Int} {ou:List ReqD} (i:InvX K (st,su,li,at',tx,(m,p,q,hs,b,()),le,ou,())) (hK:K≤1000000):OkX st li at' tx hs le ou:=by
 obtain⟨j1,j2,j3,j4,j5,j6,j7,j8,j9,j10,j11,j12,j13⟩:=i;simp only at j1 j2 j3 j4 j5 j6 j7 j8 j9 j10 j11 j12 j13;exact⟨j3,by omega,j5,j6,by omega,by omega,fun h hh=>by have:=j9 h hh;omega,j10,by omega,by omega,by omega⟩
theorem InvX.up {K L:Nat} {x:ScanD} (i:InvX K x) (h:K≤L):InvX L x:=by
 obtain⟨j1,j2,j3,j4,j5,j6,j7,j8,j9,j10,j11,j12,j13⟩:=i;exact⟨j1,j2,j3,by omega,j5,j6,by omega,by omega,fun a ha=>by have:=j9 a ha;omega,j10,by omega,j12,by omega⟩
theorem InvX.out {K:Nat} {st su li at':Int} {tx:List UInt8} {rq:ReqD} {le:Int} {ou:List ReqD} (i:InvX K (st,su,li,at',tx,rq,le,ou,())):InvX K (st,su,li,at',tx,rq,le,[],()):=by
 obtain⟨j1,j2,j3,j4,j5,j6,j7,j8,j9,j10,j11,j12,j13⟩:=i;exact⟨j1,j2,j3,j4,j5,j6,j7,j8,j9,j10,j11,j12,Nat.zero_le _⟩
theorem inv_init (ou:List ReqD):InvX ou.length (initX ou):=
 ⟨Int.le_refl 0,by show(0:Int)≤9;decide,Int.le_refl 0,by show(0:Int)≤(ou.length:Int);omega,Int.le_refl 0,by show(0:Int)≤8;decide,Nat.zero_le _,Nat.zero_le _,fun h hh=>by simp at hh,fun h=>absurd h (show ¬(0:Int)=6 by decide),by show -(ou.length:Int)≤0;omega,by show(0:Int)≤1000;decide,Nat.le_refl _⟩
theorem inv_feed1 {K:Nat} {x:ScanD} (i:InvX K x) (c:UInt8) (hz:(feed1 x c).2.1=0):InvX (K+1) (feed1 x c):=by
 have:=inv_mst i c hz;obtain⟨j1,j2,j3,j4,j5,j6,j7,j8,j9,j10,j11,j12,j13⟩:=this;exact⟨j1,j2,j3,j4,j5,j6,j7,j8,j9,j10,j11,j12,j13⟩
theorem inv_run:∀(s:List UInt8) (K:Nat) (x:ScanD),(x.2.1=0→InvX K x)→(mrun x s).2.1=0→InvX (K+s.length) (mrun x s)
 |[],K,x,i,hz=>i hz
 |c::r,K,x,i,hz=>by
  unfold mrun at hz⊢;by_cases h:x.2.1=0
  ·rw[if_pos h] at hz⊢;have:=inv_run r (K+1) (feed1 x c) (fun h'=>inv_feed1 (i h) c h') hz;rw[show K+(c::r).length=K+1+r.length by simp only[List.length_cons];omega];exact this
  ·rw[if_neg h] at hz;exact absurd hz h
end Nice
namespace Nice
open Go Go.Eng
def preX (l:List ReqD) (x:ScanD):ScanD:=(x.1,x.2.1,x.2.2.1,x.2.2.2.1,x.2.2.2.2.1,x.2.2.2.2.2.1,x.2.2.2.2.2.2.1,l++x.2.2.2.2.2.2.2.1,())
def outX (x:ScanD):List ReqD:=x.2.2.2.2.2.2.2.1
def clX (x:ScanD):ScanD:=(x.1,x.2.1,x.2.2.1,x.2.2.2.1,x.2.2.2.2.1,x.2.2.2.2.2.1,x.2.2.2.2.2.2.1,[],())
theorem hdN_pre (l:List ReqD) (su li at':Int) (tx m p q:List UInt8) (hs:List HeadD) (b:List UInt8) (le:Int) (ou:List ReqD):
  hdN su li at' tx m p q hs b le (l++ou)=(preX l (hdN su li at' tx m p q hs b le ou).1,(hdN su li at' tx m p q hs b le ou).2)∧(outX (hdN su li at' tx m p q hs b le ou).1).length≤ou.length+1:=by
 unfold hdN;cases mHeads hs 0 with
 |none=>exact⟨rfl,Nat.le_succ _⟩
 |some k=>
  simp only
  repeat' split
  ·exact⟨rfl,Nat.le_succ _⟩
  ·exact⟨rfl,Nat.le_succ _⟩
  ·exact⟨by simp only[preX,List.append_assoc],by simp[outX]⟩
  ·exact⟨rfl,Nat.le_succ _⟩
theorem lnN_pre (l:List ReqD) (st su li at':Int) (tx m p q:List UInt8) (hs:List HeadD) (b:List UInt8) (le:Int) (ou:List ReqD) (c:UInt8):
  lnN st su li at' tx m p q hs b le (l++ou) c=(preX l (lnN st su li at' tx m p q hs b le ou c).1,(lnN st su li at' tx m p q hs b le ou c).2)∧(outX (lnN st su li at' tx m p q hs b le ou c).1).length≤ou.length+1:=by
 unfold lnN
 repeat' split
 all_goals first|exact hdN_pre l su 0 at' tx m p q hs b le ou|exact⟨rfl,Nat.le_succ _⟩
theorem mst_pre (l:List ReqD) (st su li at':Int) (tx m p q:List UInt8) (hs:List HeadD) (b:List UInt8) (le:Int) (ou:List ReqD) (c:UInt8):
  mst st su li at' tx m p q hs b le (l++ou) c=(preX l (mst st su li at' tx m p q hs b le ou c).1,(mst st su li at' tx m p q hs b le ou c).2)∧(outX (mst st su li at' tx m p q hs b le ou c).1).length≤ou.length+1:=by
 unfold mst;have e:longN (st,su,li,at',tx,(m,p,q,hs,b,()),le,l++ou,()) c=longN (st,su,li,at',tx,(m,p,q,hs,b,()),le,ou,()) c:=rfl;rw[e]
 repeat' split
 all_goals first|exact lnN_pre l st su li at' tx m p q hs b le ou c|exact⟨rfl,Nat.le_succ _⟩|exact⟨by simp only[preX,List.append_assoc],by simp[outX]⟩
theorem feed1_pre (l:List ReqD) (x:ScanD) (c:UInt8):feed1 (preX l x) c=preX l (feed1 x c):=by
 obtain⟨st,su,li,at',tx,⟨m,p,q,hs,b,⟨⟩⟩,le,ou,⟨⟩⟩:=x;have h:=(mst_pre l st su li at' tx m p q hs b le ou c).1;show((mst st su li at' tx m p q hs b le (l++ou) c).1.1,(mst st su li at' tx m p q hs b le (l++ou) c).2,(mst st su li at' tx m p q hs b le (l++ou) c).1.2.2)=_;rw[h];rfl
theorem feed1_out (x:ScanD) (c:UInt8):(outX (feed1 x c)).length≤(outX x).length+1:=by
 obtain⟨st,su,li,at',tx,⟨m,p,q,hs,b,⟨⟩⟩,le,ou,⟨⟩⟩:=x;exact(mst_pre [] st su li at' tx m p q hs b le ou c).2
theorem mrun_pre (l:List ReqD):∀(s:List UInt8) (x:ScanD),mrun (preX l x) s=preX l (mrun x s)
 |[],x=>rfl
 |c::r,x=>by
  show(if x.2.1=0 then mrun (feed1 (preX l x) c) r else preX l x)=preX l (if x.2.1=0 then mrun (feed1 x c) r else x);by_cases h:x.2.1=0
  ·rw[if_pos h,if_pos h,feed1_pre,mrun_pre l r]
  ·rw[if_neg h,if_neg h]
theorem mrun_out:∀(s:List UInt8) (x:ScanD),(outX (mrun x s)).length≤(outX x).length+s.length
 |[],x=>Nat.le_refl _
 |c::r,x=>by
  show(outX (if x.2.1=0 then mrun (feed1 x c) r else x)).length≤_;by_cases h:x.2.1=0
  ·rw[if_pos h];have:=mrun_out r (feed1 x c);have:=feed1_out x c;simp only[List.length_cons];omega
  ·rw[if_neg h];exact Nat.le_add_right _ _
theorem preX_cl (x:ScanD):preX (outX x) (clX x)=x:=by
 obtain⟨st,su,li,at',tx,rq,le,ou,⟨⟩⟩:=x;show(st,su,li,at',tx,rq,le,ou++[],())=_;rw[List.append_nil]
theorem mrun_two (x:ScanD) (a b:List UInt8):clX (mrun x (a++b))=clX (mrun (clX (mrun x a)) b)∧outX (mrun x (a++b))=outX (mrun x a)++outX (mrun (clX (mrun x a)) b):=by
 rw[mrun_app];have h:=mrun_pre (outX (mrun x a)) b (clX (mrun x a));rw[preX_cl] at h;rw[h];exact⟨rfl,rfl⟩
end Nice
namespace Go.Proofs.YtldllfocpadkeaaGreatDoor
open Go Go.Eng Nice
set_option maxRecDepth 1000000
def Targ (s A:List UInt8) (st:Int) (tx p:List UInt8) (u:List UInt8) (i:Nat) (k:Int):Prop:=
 (st=1∧k= -1∧p=[]∧s=A++(tx++u)∧i=A.length+tx.length)∨(st=2∧k=((A.length+p.length:Nat):Int)∧s=A++(p++(63::(tx++u)))∧i=A.length+p.length+1+tx.length)
theorem Targ.len {s A:List UInt8} {st:Int} {tx p u:List UInt8} {i:Nat} {k:Int} (h:Targ s A st tx p u i k):s.length=i+u.length∧A.length≤i:=by
 rcases h with⟨-, -, -,rfl,rfl⟩|⟨-, -,rfl,rfl⟩
 ·simp only[List.length_append];omega
 ·simp only[List.length_append,List.length_cons];omega
theorem Targ.drop {s A:List UInt8} {st:Int} {tx p u:List UInt8} {i:Nat} {k:Int} (h:Targ s A st tx p u i k):s=s.take i++u:=by
 rcases h with⟨-, -, -,rfl,rfl⟩|⟨-, -,rfl,rfl⟩
 ·rw[←List.append_assoc,←List.length_append,List.take_left]
 ·have e:A++(p++63::(tx++u))=(A++p++[63]++tx)++u:=by simp
  rw[e,show A.length+p.length+1+tx.length=(A++p++[63]++tx).length by(simp;omega),List.take_left]
theorem Targ.get {s A:List UInt8} {st:Int} {tx p u:List UInt8} {c:UInt8} {i:Nat} {k:Int} (h:Targ s A st tx p (c::u) i k):s.getD i 0=c:=by
 have e:=h.drop;have l:=h.len;have hl:(s.take i).length=i:=by rw[List.length_take];omega
 have:=getD_mid (s.take i) u c 0;rw[hl,←e] at this;exact this
end Go.Proofs.YtldllfocpadkeaaGreatDoor
