/-
  Part of the proof: PFl PFlo Nice NiceK NiceT Mk NiceZ TagG TagH Cl Del CusD Goes. No condition.
-/
import Derived.Test.YtikedhemjoljpaaGreatDoorEng12
import Derived.Shelf.Strconv.AtoiAll
import Derived.Shelf.GgClosure.StringsIndexFuncTop
import Derived.Shelf.Strconv.ParseIntPublic10
import Derived.Test.YtikedhemjoljpaaGreatDoorSym
import Derived.Tactics2
import Derived.WalkKit
import Derived.Test.YtikedhemjoljpaaGreatDoorEnv
import Derived.Deep.RegionLaw
import Derived.Lib.SliceRun
import Derived.Shelf.RegionOpenPlain
import Derived.Lib.Walk
import Derived.Test.YtikedhemjoljpaaGreatDoorCards
import Derived.SevenTiedAt
namespace Nice
open Go Go.Eng
def finW (x:Nat):Bool:=match FloatKind.f64.decode x with
 | .nan _ _=>false
 |_=>true
def truncW (x:Nat):Nat:=FloatKind.f64.encode ((FloatKind.f64.decode x).integral .zero)
def wholeW (x a b:Nat):Bool:=fRel .geq .f64 x a&&(fRel .leq .f64 x b&&fRel .eql .f64 x (truncW x))
theorem log_le {n k:Nat} (h1:1≤n) (h2:n<2^(k+1)):n.log2≤k:=by
 have:=(Nat.log2_lt (by omega:n≠0)).2 h2;omega
theorem cut_zero (way:Ieee.Toward) (n:Nat):way.cut false n 0=n:=by
 unfold Ieee.Toward.cut;have e:(1<<<min 0 (n.log2+2):Nat)=1:=by rw[Nat.zero_min];rfl
 simp only[e,Nat.div_one,Nat.mod_one,Nat.mul_zero];cases way<;>simp
theorem word_false (f:Ieee.Format) (x:Nat):f.word false x=x:=rfl
theorem nearest_pos {n:Nat} (h1:1≤n) (h2:n<2^53):FloatKind.f64.nearest (n:Int)=(n.log2+1022)*2^52+n*2^(52-n.log2):=by
 have hL:=log_le h1 h2;have hlo:=Nat.log2_self_le (by omega:n≠0);have hhi:=(Nat.log2_lt (by omega:n≠0)).1 (Nat.lt_succ_self n.log2);have e0:decide ((n:Int)<0)=false:=by rw[decide_eq_false_iff_not];omega
 show Ieee.Format.nearest Ieee.double (decide ((n:Int)<0)) (n:Int).natAbs 0=_;rw[e0,Int.natAbs_natCast];unfold Ieee.Format.nearest;rw[if_neg (by omega)];have hlp:Ieee.double.leastPlace= -1074:=by decide
 have hmax:max ((0:Int)+n.log2-(Ieee.double.fractionBits:Nat)) Ieee.double.leastPlace=(n.log2:Int)-52:=by
  rw[hlp];show max ((0:Int)+n.log2-52) (-1074)=_;omega
 simp only[hmax];rw[hlp];have e1:((n.log2:Int)-52-0).toNat=0:=by omega
 have e2:((0:Int)-((n.log2:Int)-52)).toNat=52-n.log2:=by omega
 have e3:((n.log2:Int)-52- -1074).toNat=n.log2+1022:=by omega
 rw[e1,e2,e3,cut_zero,Nat.shiftLeft_eq];have hb:Ieee.double.binade=2^52:=rfl;have hi:Ieee.double.infRung=2047*2^52:=by decide
 rw[hb,hi];have hk:n*2^(52-n.log2)<2^53:=by
  calc n*2^(52-n.log2)<2^(n.log2+1)*2^(52-n.log2):=Nat.mul_lt_mul_of_pos_right hhi (Nat.two_pow_pos _)
   _=2^53:=by rw[←Nat.pow_add];congr 1;omega
 rw[word_false];apply Nat.min_eq_left;omega
theorem decode_nearest {n:Nat} (h1:1≤n) (h2:n<2^53):FloatKind.f64.decode (FloatKind.f64.nearest (n:Int))=.number false (n*2^(52-n.log2)) ((n.log2:Int)-52):=by
 have hL:=log_le h1 h2;have hlo:=Nat.log2_self_le (by omega:n≠0);have hhi:=(Nat.log2_lt (by omega:n≠0)).1 (Nat.lt_succ_self n.log2);rw[nearest_pos h1 h2];have hk:n*2^(52-n.log2)<2^53:=by
  calc n*2^(52-n.log2)<2^(n.log2+1)*2^(52-n.log2):=Nat.mul_lt_mul_of_pos_right hhi (Nat.two_pow_pos _)
   _=2^53:=by rw[←Nat.pow_add];congr 1;omega
 have hg:2^52≤n*2^(52-n.log2):=by
  calc 2^52=2^n.log2*2^(52-n.log2):=by rw[←Nat.pow_add];congr 1;omega
   _≤n*2^(52-n.log2):=Nat.mul_le_mul_right _ hlo
 generalize n*2^(52-n.log2)=m at hk hg⊢;have hs:Ieee.double.signWeight=2^63:=rfl;have hb:Ieee.double.binade=2^52:=rfl;have hi:Ieee.double.infRung=2047*2^52:=by decide
 have hlp:Ieee.double.leastPlace= -1074:=by decide
 show Ieee.Format.read Ieee.double ((n.log2+1022)*2^52+m)=_;unfold Ieee.Format.read;simp only[hs,hb,hi,hlp];have q1:((n.log2+1022)*2^52+m)/2^63%2=0:=by omega
 have q2:((n.log2+1022)*2^52+m)%2^63=(n.log2+1022)*2^52+m:=by omega
 rw[q1,q2,if_neg (by omega),if_pos (by omega)];have q3:2^52+((n.log2+1022)*2^52+m)%2^52=m:=by omega
 have q4:((n.log2+1022)*2^52+m)/2^52-1=n.log2+1022:=by omega
 rw[q3,q4];have q5:(-1074:Int)+((n.log2+1022:Nat):Int)=(n.log2:Int)-52:=by omega
 rw[q5];rfl
theorem trunc_nearest {n:Nat} (h1:1≤n) (h2:n<2^53):truncW (FloatKind.f64.nearest (n:Int))=FloatKind.f64.nearest (n:Int):=by
 have hL:=log_le h1 h2;unfold truncW;rw[decode_nearest h1 h2];unfold Ieee.Datum.integral Ieee.Toward.cut;have e1:((n.log2:Int)-52).toNat=0:=by omega
 have e2:(-((n.log2:Int)-52)).toNat=52-n.log2:=by omega
 simp only[e1,e2,Nat.shiftLeft_zero,Bool.toNat_false,Nat.add_zero];have hg:(1<<<min (52-n.log2) ((n*2^(52-n.log2)).log2+2):Nat)=2^(52-n.log2):=by
  rw[Nat.shiftLeft_eq,Nat.one_mul,Nat.min_eq_left];have:2^(52-n.log2)≤n*2^(52-n.log2):=Nat.le_mul_of_pos_left _ h1;have:=(Nat.le_log2 (Nat.ne_of_gt (Nat.lt_of_lt_of_le (Nat.two_pow_pos _) this))).2 this;omega
 rw[hg,Nat.mul_div_cancel _ (Nat.two_pow_pos _)];have e0:decide ((n:Int)<0)=false:=by rw[decide_eq_false_iff_not];omega
 show _=Ieee.Format.nearest Ieee.double (decide ((n:Int)<0)) (n:Int).natAbs 0;rw[e0,Int.natAbs_natCast];rfl
theorem order_self (s:Bool) (m:Nat) (i:Int):Ieee.Datum.order (.number s m i) (.number s m i)=some .eq:=by
 unfold Ieee.Datum.order;simp
theorem whole_n {n:Nat} (h:n<65536):finW (FloatKind.f64.nearest (n:Int))=true∧wholeW (FloatKind.f64.nearest (n:Int)) 0 4679237813814689792=decide (n<65521):=by
 rcases Nat.eq_zero_or_pos n with rfl|h1
 ·decide
 have h2:n<2^53:=by omega
 have hd:=decode_nearest h1 h2;have hL:n.log2≤15:=log_le h1 (by omega);refine⟨by unfold finW;rw[hd],?_⟩;have hz:FloatKind.f64.decode 0=.number false 0 (-1074):=by decide
 have hw:FloatKind.f64.decode 4679237813814689792=.number false (65520*2^37) (-37):=by decide
 have o1:FloatKind.f64.format.order (FloatKind.f64.nearest (n:Int)) 0=some .gt:=by
  show Ieee.Datum.order (FloatKind.f64.decode (FloatKind.f64.nearest (n:Int))) (FloatKind.f64.decode 0)=_;rw[hd,hz];unfold Ieee.Datum.order Ieee.signed;have hm:min ((n.log2:Int)-52) (-1074)= -1074:=by omega
  simp only[hm,Bool.false_eq_true,if_false,Nat.shiftLeft_eq,Nat.zero_mul];congr 1;rw[Int.compare_eq_gt];have:0<n*2^(52-n.log2)*2^((n.log2:Int)-52- -1074).toNat:=Nat.mul_pos (Nat.mul_pos h1 (Nat.two_pow_pos _)) (Nat.two_pow_pos _);omega
 have o2:FloatKind.f64.format.order (FloatKind.f64.nearest (n:Int)) 4679237813814689792=some (compare n 65520):=by
  show Ieee.Datum.order (FloatKind.f64.decode (FloatKind.f64.nearest (n:Int))) (FloatKind.f64.decode 4679237813814689792)=_;rw[hd,hw];unfold Ieee.Datum.order Ieee.signed;have hm:min ((n.log2:Int)-52) (-37)=(n.log2:Int)-52:=by omega
  have e1:((n.log2:Int)-52-((n.log2:Int)-52)).toNat=0:=by omega
  have e2:((-37:Int)-((n.log2:Int)-52)).toNat=15-n.log2:=by omega
  simp only[hm,e1,e2,Bool.false_eq_true,if_false,Nat.shiftLeft_eq,Nat.pow_zero,Nat.mul_one];have e3:65520*2^37*2^(15-n.log2)=65520*2^(52-n.log2):=by
   rw[Nat.mul_assoc,←Nat.pow_add];congr 2;omega
  rw[e3];congr 1;have hp:=Nat.two_pow_pos (52-n.log2);generalize 2^(52-n.log2)=q at hp;rcases Nat.lt_trichotomy n 65520 with hlt|heq|hgt
  ·rw[Nat.compare_eq_lt.2 hlt,Int.compare_eq_lt];exact Int.ofNat_lt.2 (Nat.mul_lt_mul_of_pos_right hlt hp)
  ·rw[Nat.compare_eq_eq.2 heq,Int.compare_eq_eq,heq]
  ·rw[Nat.compare_eq_gt.2 hgt,Int.compare_eq_gt];exact Int.ofNat_lt.2 (Nat.mul_lt_mul_of_pos_right hgt hp)
 have o3:FloatKind.f64.format.order (FloatKind.f64.nearest (n:Int)) (FloatKind.f64.nearest (n:Int))=some .eq:=by
  show Ieee.Datum.order (FloatKind.f64.decode (FloatKind.f64.nearest (n:Int))) (FloatKind.f64.decode (FloatKind.f64.nearest (n:Int)))=_;rw[hd,order_self]
 unfold wholeW fRel;simp only[trunc_nearest h1 h2,o1,o2,o3];rcases Nat.lt_trichotomy n 65520 with hlt|heq|hgt
 ·rw[Nat.compare_eq_lt.2 hlt,decide_eq_true (by omega:n<65521)];rfl
 ·rw[Nat.compare_eq_eq.2 heq,decide_eq_true (by omega:n<65521)];rfl
 ·rw[Nat.compare_eq_gt.2 hgt,decide_eq_false (by omega:¬n<65521)];rfl
end Nice
namespace Nice
open Go Go.Eng
abbrev fN (n:Int):Nat:=FloatKind.f64.nearest n
theorem dbl_w:Ieee.double.signWeight=2^63:=rfl
theorem dbl_b:Ieee.double.binade=2^52:=rfl
theorem dbl_i:Ieee.double.infRung=2047*2^52:=by decide
theorem dbl_l:Ieee.double.leastPlace= -1074:=by decide
theorem word_true (x:Nat):Ieee.double.word true x=2^63+x:=by
 unfold Ieee.Format.word;rw[if_pos rfl,dbl_w]
theorem cut_sg (n d:Nat):Ieee.Toward.even.cut true n d=Ieee.Toward.even.cut false n d:=rfl
theorem nearest_sg (f:Ieee.Format) (m:Nat) (p:Int):f.nearest true m p=f.word true (f.nearest false m p):=by
 unfold Ieee.Format.nearest;by_cases h:m=0
 ·rw[if_pos h,if_pos h,word_false]
 ·rw[if_neg h,if_neg h];simp only[word_false];rw[cut_sg]
theorem nearest_neg (m:Nat) (p:Int):Ieee.double.nearest true m p=2^63+Ieee.double.nearest false m p:=by
 rw[nearest_sg,word_true]
theorem read_neg {r m:Nat} {i:Int} (h:r<2^63) (hd:Ieee.double.read r=.number false m i):Ieee.double.read (2^63+r)=.number true m i:=by
 unfold Ieee.Format.read at hd⊢;simp only[dbl_w,dbl_b,dbl_i,dbl_l] at hd⊢;have q1:(2^63+r)/2^63%2=1:=by omega
 have q2:(2^63+r)%2^63=r:=by omega
 have q3:r/2^63%2=0:=by omega
 have q4:r%2^63=r:=by omega
 rw[q3,q4] at hd;rw[q1,q2];by_cases c1:r<2^52
 ·rw[if_pos c1] at hd⊢;injection hd with _ e2 e3;rw[e2,e3];rfl
 ·rw[if_neg c1] at hd⊢;by_cases c2:r<2047*2^52
  ·rw[if_pos c2] at hd⊢;injection hd with _ e2 e3;rw[e2,e3];rfl
  ·rw[if_neg c2] at hd;by_cases c3:r=2047*2^52
   ·rw[if_pos c3] at hd;cases hd
   ·rw[if_neg c3] at hd;cases hd
structure Rep (n:Int) (x:Nat) (k:Nat):Prop where
 d:FloatKind.f64.decode x=.number (decide (n<0)) (n.natAbs*2^k) (-(k:Int))
theorem fN_neg {n:Nat} (h1:1≤n):fN (-(n:Int))=2^63+fN (n:Int):=by
 have e1:decide ((-(n:Int))<0)=true:=by rw[decide_eq_true_eq];omega
 have e2:decide (((n:Int))<0)=false:=by rw[decide_eq_false_iff_not];omega
 show Ieee.double.nearest (decide ((-(n:Int))<0)) (-(n:Int)).natAbs 0=2^63+Ieee.double.nearest (decide (((n:Int))<0)) (n:Int).natAbs 0;rw[e1,e2,nearest_neg,Int.natAbs_neg]
theorem fN_pos_lt {n:Nat} (h1:1≤n) (h2:n<2^53):fN (n:Int)<2^63:=by
 have hL:=log_le h1 h2;have hhi:=(Nat.log2_lt (by omega:n≠0)).1 (Nat.lt_succ_self n.log2);show FloatKind.f64.nearest (n:Int)<_;rw[nearest_pos h1 h2];have hk:n*2^(52-n.log2)<2^53:=by
  calc n*2^(52-n.log2)<2^(n.log2+1)*2^(52-n.log2):=Nat.mul_lt_mul_of_pos_right hhi (Nat.two_pow_pos _)
   _=2^53:=by rw[←Nat.pow_add];congr 1;omega
 omega
theorem rep {n:Int} (h:n.natAbs<2^53):∃k,Rep n (fN n) k:=by
 rcases Int.lt_trichotomy n 0 with hn|hn|hn
 ·obtain⟨m,rfl⟩:∃m:Nat,n= -(m:Int):=⟨n.natAbs,by omega⟩
  rw[Int.natAbs_neg,Int.natAbs_natCast] at h;have h1:1≤m:=by omega
  have hL:=log_le h1 h;refine⟨52-m.log2,⟨?_⟩⟩;rw[fN_neg h1,Int.natAbs_neg,Int.natAbs_natCast,decide_eq_true (show(-(m:Int))<0 by omega)];refine read_neg (fN_pos_lt h1 h) ?_;refine Eq.trans (decode_nearest h1 h) ?_;congr 1;omega
 ·subst hn;have e:FloatKind.f64.decode (fN 0)=.number false 0 (-1074):=by decide
  obtain⟨K,hK⟩:∃K:Nat,K=1074:=⟨_,rfl⟩
  refine⟨K,⟨?_⟩⟩;rw[e,Int.natAbs_zero,Nat.zero_mul,decide_eq_false (show ¬((0:Int)<0) by omega),hK];rfl
 ·obtain⟨m,rfl⟩:∃m:Nat,n=(m:Int):=⟨n.natAbs,by omega⟩
  rw[Int.natAbs_natCast] at h;have h1:1≤m:=by omega
  have hL:=log_le h1 h;refine⟨52-m.log2,⟨?_⟩⟩;rw[Int.natAbs_natCast,decide_eq_false (show ¬((m:Int))<0 by omega)];refine Eq.trans (decode_nearest h1 h) ?_;congr 1;omega
theorem log2_mul {m s:Nat} (h:1≤m):(m*2^s).log2=m.log2+s:=by
 have hlo:=Nat.log2_self_le (by omega:m≠0);have hhi:=(Nat.log2_lt (by omega:m≠0)).1 (Nat.lt_succ_self m.log2);have hp:0<m*2^s:=Nat.mul_pos h (Nat.two_pow_pos s);apply Nat.le_antisymm
 ·have:(m*2^s).log2<m.log2+s+1:=(Nat.log2_lt (by omega)).2 (by
   calc m*2^s<2^(m.log2+1)*2^s:=Nat.mul_lt_mul_of_pos_right hhi (Nat.two_pow_pos _)
    _=2^(m.log2+s+1):=by rw[←Nat.pow_add];congr 1;omega)
  omega
 ·exact(Nat.le_log2 (by omega)).2 (by
   calc 2^(m.log2+s)=2^m.log2*2^s:=Nat.pow_add ..
    _≤m*2^s:=Nat.mul_le_mul_right _ hlo)
theorem cut_even {n d:Nat} (q:Nat) (h:n=q*2^d) (hd:d≤n.log2+2) (neg:Bool):Ieee.Toward.even.cut neg n d=q:=by
 unfold Ieee.Toward.cut;have e:(1<<<min d (n.log2+2):Nat)=2^d:=by rw[Nat.min_eq_left hd,Nat.shiftLeft_eq,Nat.one_mul]
 have hp:=Nat.two_pow_pos d;have e1:n/2^d=q:=by rw[h];exact Nat.mul_div_cancel _ hp
 have e2:n%2^d=0:=by rw[h];exact Nat.mul_mod_left ..
 simp only[e,e1,e2,Nat.mul_zero];have c1:decide (2^d<0)=false:=rfl;have c2:((2^d:Nat)==0)=false:=beq_eq_false_iff_ne.2 (by omega);rw[c1,c2];rfl
theorem near_scale {m s:Nat} (hm:m<2^53) (neg:Bool):Ieee.double.nearest neg (m*2^s) (-(s:Int))=Ieee.double.nearest neg m 0:=by
 rcases Nat.eq_zero_or_pos m with rfl|h1
 ·rw[Nat.zero_mul];unfold Ieee.Format.nearest;rw[if_pos rfl,if_pos rfl]
 have hL:=log_le h1 hm;have hp:m*2^s≠0:=Nat.ne_of_gt (Nat.mul_pos h1 (Nat.two_pow_pos s));have hl:=log2_mul (s:=s) h1;unfold Ieee.Format.nearest;rw[if_neg hp,if_neg (by omega),hl];have hf:(Ieee.double.fractionBits:Int)=52:=rfl;have a1:max (-(s:Int)+((m.log2+s:Nat):Int)-(Ieee.double.fractionBits:Int)) Ieee.double.leastPlace=(m.log2:Int)-52:=by rw[dbl_l,hf];omega
 have a2:max ((0:Int)+(m.log2:Int)-(Ieee.double.fractionBits:Int)) Ieee.double.leastPlace=(m.log2:Int)-52:=by rw[dbl_l,hf];omega
 simp only[a1,a2];have k2:Ieee.Toward.even.cut neg (m<<<((0:Int)-((m.log2:Int)-52)).toNat) (((m.log2:Int)-52)-0).toNat=m*2^(52-m.log2):=by
  have e1:((0:Int)-((m.log2:Int)-52)).toNat=52-m.log2:=by omega
  have e2:(((m.log2:Int)-52)-0).toNat=0:=by omega
  rw[e1,e2,Nat.shiftLeft_eq];exact cut_even _ (by rw[Nat.pow_zero,Nat.mul_one]) (by omega) neg
 have k1:Ieee.Toward.even.cut neg ((m*2^s)<<<(-(s:Int)-((m.log2:Int)-52)).toNat) (((m.log2:Int)-52)- -(s:Int)).toNat=m*2^(52-m.log2):=by
  by_cases hs:s≤52-m.log2
  ·have e1:(-(s:Int)-((m.log2:Int)-52)).toNat=52-m.log2-s:=by omega
   have e2:(((m.log2:Int)-52)- -(s:Int)).toNat=0:=by omega
   rw[e1,e2,Nat.shiftLeft_eq];refine cut_even _ ?_ (by omega) neg;rw[Nat.pow_zero,Nat.mul_one,Nat.mul_assoc,←Nat.pow_add];congr 2;omega
  ·have e1:(-(s:Int)-((m.log2:Int)-52)).toNat=0:=by omega
   have e2:(((m.log2:Int)-52)- -(s:Int)).toNat=s-(52-m.log2):=by omega
   rw[e1,e2,Nat.shiftLeft_eq,Nat.pow_zero,Nat.mul_one];refine cut_even _ ?_ (by rw[hl];omega) neg;rw[Nat.mul_assoc,←Nat.pow_add];congr 2;omega
 rw[k1,k2]
theorem write_scale {n:Int} {s:Nat} (h:n.natAbs<2^53):FloatKind.f64.format.write (.number (decide (n<0)) (n.natAbs*2^s) (-(s:Int)))=fN n:=near_scale h _
theorem signed_up {n:Int} {k u:Nat}:Ieee.signed (decide (n<0)) (n.natAbs*2^k) u=n*2^(k+u):=by
 unfold Ieee.signed;have e:((n.natAbs*2^k)<<<u:Nat)=n.natAbs*2^(k+u):=by rw[Nat.shiftLeft_eq,Nat.mul_assoc,←Nat.pow_add]
 have ec:((n.natAbs*2^(k+u):Nat):Int)=(n.natAbs:Int)*2^(k+u):=by rw[Int.natCast_mul,Int.natCast_pow];rfl
 rw[e,ec];generalize (2:Int)^(k+u)=p;by_cases h:n<0
 ·rw[if_pos (decide_eq_true h),←Int.neg_mul,show -(n.natAbs:Int)=n by omega]
 ·rw[if_neg (by rw[decide_eq_false h];decide),show(n.natAbs:Int)=n by omega]
theorem sum_rep {a b:Int} {x y k l:Nat} (h1:Rep a x k) (h2:Rep b y l) (h:(a+b).natAbs<2^53) (hz:¬(a<0∧b<0∧a+b=0)):(((FloatKind.f64.format.read x).sum (FloatKind.f64.format.read y)).map FloatKind.f64.format.write)=some (fN (a+b)):=by
 have d1:FloatKind.f64.format.read x=_:=h1.d;have d2:FloatKind.f64.format.read y=_:=h2.d;rw[d1,d2];unfold Ieee.Datum.sum;simp only[Option.map_some];have hb:min (-(k:Int)) (-(l:Int))= -((max k l:Nat):Int):=by omega
 have u1:(-(k:Int)- -((max k l:Nat):Int)).toNat=max k l-k:=by omega
 have u2:(-(l:Int)- -((max k l:Nat):Int)).toNat=max k l-l:=by omega
 rw[hb,u1,u2,signed_up,signed_up,show k+(max k l-k)=max k l by omega,show l+(max k l-l)=max k l by omega,←Int.add_mul];have hp:(0:Int)<2^max k l:=Int.pow_pos (by decide);have hn:((a+b)*2^max k l).natAbs=(a+b).natAbs*2^max k l:=by
  rw[Int.natAbs_mul,Int.natAbs_pow];rfl
 have hs:(if(a+b)*2^max k l=0 then(decide (a<0)&&decide (b<0)) else decide ((a+b)*2^max k l<0))=decide (a+b<0):=by
  by_cases h0:a+b=0
  ·rw[h0,Int.zero_mul,if_pos rfl];by_cases ha:a<0
   ·by_cases hb:b<0
    ·exact absurd ⟨ha,hb,h0⟩ hz
    ·rw[decide_eq_false hb,Bool.and_false];rfl
   ·rw[decide_eq_false ha];rfl
  ·have hne:(a+b)*2^max k l≠0:=Int.mul_ne_zero h0 (by omega);rw[if_neg hne,decide_eq_decide];constructor
   ·intro h;by_cases hc:a+b<0
    ·exact hc
    ·have:=Int.mul_nonneg (show 0≤a+b by omega) (Int.le_of_lt hp);omega
   ·intro h;exact Int.mul_neg_of_neg_of_pos h hp
 rw[hn,hs,write_scale h]
theorem fadd {a b:Int} (ha:0≤a) (hb:0≤b) (h:a+b<9007199254740992):fAr .add (fN a) (fN b)=some (fN (a+b)):=by
 obtain⟨k,h1⟩:=rep (n:=a) (by omega);obtain⟨l,h2⟩:=rep (n:=b) (by omega);exact sum_rep h1 h2 (by omega) (by omega)
theorem fsub {a b:Int} (ha:0≤a) (hb:0≤b) (h1:a<9007199254740992) (h2:b<9007199254740992):fAr .sub (fN a) (fN b)=some (fN (a-b)):=by
 obtain⟨k,r1⟩:=rep (n:=a) (by omega);obtain⟨l,r2⟩:=rep (n:=b) (by omega);rcases Int.lt_or_eq_of_le hb with hb|hb
 ·obtain⟨l',r3⟩:=rep (n:= -b) (by omega);have e:(FloatKind.f64.format.read (fN b)).opposite=.number (decide (-b<0)) ((-b).natAbs*2^l) (-(l:Int)):=by
   have d:FloatKind.f64.format.read (fN b)=_:=r2.d;rw[d,decide_eq_false (show ¬b<0 by omega),decide_eq_true (show -b<0 by omega),Int.natAbs_neg];rfl
  have d1:FloatKind.f64.format.read (fN a)=_:=r1.d;show((FloatKind.f64.format.read (fN a)).sum (FloatKind.f64.format.read (fN b)).opposite).map FloatKind.f64.format.write=_;rw[e,d1];unfold Ieee.Datum.sum;simp only[Option.map_some];have hb2:min (-(k:Int)) (-(l:Int))= -((max k l:Nat):Int):=by omega
  have u1:(-(k:Int)- -((max k l:Nat):Int)).toNat=max k l-k:=by omega
  have u2:(-(l:Int)- -((max k l:Nat):Int)).toNat=max k l-l:=by omega
  rw[hb2,u1,u2,signed_up,signed_up,show k+(max k l-k)=max k l by omega,show l+(max k l-l)=max k l by omega,←Int.add_mul,←Int.sub_eq_add_neg];have hp:(0:Int)<2^max k l:=Int.pow_pos (by decide);have hn:((a-b)*2^max k l).natAbs=(a-b).natAbs*2^max k l:=by
   rw[Int.natAbs_mul,Int.natAbs_pow];rfl
  have hs:(if(a-b)*2^max k l=0 then(decide (a<0)&&decide (-b<0)) else decide ((a-b)*2^max k l<0))=decide (a-b<0):=by
   by_cases h0:a-b=0
   ·rw[h0,Int.zero_mul,if_pos rfl,decide_eq_false (show ¬a<0 by omega)];rfl
   ·have hne:(a-b)*2^max k l≠0:=Int.mul_ne_zero h0 (by omega);rw[if_neg hne,decide_eq_decide];constructor
    ·intro h;by_cases hc:a-b<0
     ·exact hc
     ·have:=Int.mul_nonneg (show 0≤a-b by omega) (Int.le_of_lt hp);omega
    ·intro h;exact Int.mul_neg_of_neg_of_pos h hp
  rw[hn,hs,write_scale (by omega)]
 ·subst hb;have e:(FloatKind.f64.format.read (fN 0)).opposite=.number true 0 (-1074):=by decide
  have d1:FloatKind.f64.format.read (fN a)=_:=r1.d;show((FloatKind.f64.format.read (fN a)).sum (FloatKind.f64.format.read (fN 0)).opposite).map FloatKind.f64.format.write=_;rw[e,d1];unfold Ieee.Datum.sum;simp only[Option.map_some];have hb2:min (-(k:Int)) (-1074:Int)= -((max k 1074:Nat):Int):=by omega
  have u1:(-(k:Int)- -((max k 1074:Nat):Int)).toNat=max k 1074-k:=by omega
  have z0:∀u,Ieee.signed true 0 u=0:=fun u=>by unfold Ieee.signed;simp
  rw[hb2,u1,signed_up,z0,Int.add_zero,show k+(max k 1074-k)=max k 1074 by omega,Int.sub_zero];have hp:(0:Int)<2^max k 1074:=Int.pow_pos (by decide);have hn:(a*2^max k 1074).natAbs=a.natAbs*2^max k 1074:=by
   rw[Int.natAbs_mul,Int.natAbs_pow];rfl
  have hnn:=Int.mul_nonneg ha (Int.le_of_lt hp);have hs:(if a*2^max k 1074=0 then(decide (a<0)&&true) else decide (a*2^max k 1074<0))=decide (a<0):=by
   rw[decide_eq_false (show ¬a<0 by omega),decide_eq_false (show ¬a*2^max k 1074<0 by omega)]
   split<;>rfl
  rw[hn,hs,write_scale (by omega)]
theorem fmul {a b:Int} (ha:0≤a) (hb:0≤b) (h1:a<9007199254740992) (h2:b<9007199254740992) (h:a*b<9007199254740992):fAr .mul (fN a) (fN b)=some (fN (a*b)):=by
 obtain⟨k,r1⟩:=rep (n:=a) (by omega);obtain⟨l,r2⟩:=rep (n:=b) (by omega);have d1:FloatKind.f64.format.read (fN a)=_:=r1.d;have d2:FloatKind.f64.format.read (fN b)=_:=r2.d;have hab:=Int.mul_nonneg ha hb;show((FloatKind.f64.format.read (fN a)).product (FloatKind.f64.format.read (fN b))).map FloatKind.f64.format.write=_
 rw[d1,d2];unfold Ieee.Datum.product;simp only[Option.map_some];have e1:a.natAbs*2^k*(b.natAbs*2^l)=(a*b).natAbs*2^(k+l):=by
  rw[Int.natAbs_mul,Nat.pow_add,Nat.mul_mul_mul_comm]
 have e2: -(k:Int)+ -(l:Int)= -((k+l:Nat):Int):=by omega
 have e3:(decide (a<0)^^decide (b<0))=decide (a*b<0):=by
  rw[decide_eq_false (show ¬a<0 by omega),decide_eq_false (show ¬b<0 by omega),decide_eq_false (show ¬a*b<0 by omega)];rfl
 rw[e1,e2,e3,write_scale (by omega)]
theorem ford {a b:Int} (ha:a.natAbs<2^53) (hb:b.natAbs<2^53):FloatKind.f64.format.order (fN a) (fN b)=some (compare a b):=by
 obtain⟨k,r1⟩:=rep ha;obtain⟨l,r2⟩:=rep hb;have d1:FloatKind.f64.format.read (fN a)=_:=r1.d;have d2:FloatKind.f64.format.read (fN b)=_:=r2.d;show Ieee.Datum.order (FloatKind.f64.format.read (fN a)) (FloatKind.f64.format.read (fN b))=_;rw[d1,d2];unfold Ieee.Datum.order;have hb2:min (-(k:Int)) (-(l:Int))= -((max k l:Nat):Int):=by omega
 have u1:(-(k:Int)- -((max k l:Nat):Int)).toNat=max k l-k:=by omega
 have u2:(-(l:Int)- -((max k l:Nat):Int)).toNat=max k l-l:=by omega
 simp only[hb2,u1,u2];rw[signed_up,signed_up,show k+(max k l-k)=max k l by omega,show l+(max k l-l)=max k l by omega];have hp:(0:Int)<2^max k l:=Int.pow_pos (by decide);congr 1;rcases Int.lt_trichotomy a b with h|h|h
 ·rw[Int.compare_eq_lt.2 h,Int.compare_eq_lt];exact Int.mul_lt_mul_of_pos_right h hp
 ·rw[h,Int.compare_eq_eq.2 rfl,Int.compare_eq_eq.2 rfl]
 ·rw[Int.compare_eq_gt.2 h,Int.compare_eq_gt];exact Int.mul_lt_mul_of_pos_right h hp
theorem cut_trunc {m k:Nat} (s:Bool):Ieee.Toward.zero.cut s (m*2^k) k=m:=by
 unfold Ieee.Toward.cut;simp only[Bool.toNat_false,Nat.add_zero];rcases Nat.eq_zero_or_pos m with rfl|h1
 ·rw[Nat.zero_mul,Nat.zero_div]
 ·have hl:=log2_mul (s:=k) h1;rw[Nat.min_eq_left (by omega),Nat.shiftLeft_eq,Nat.one_mul];exact Nat.mul_div_cancel _ (Nat.two_pow_pos k)
theorem integral_rep {n:Int} {x k:Nat} (h:Rep n x k):(FloatKind.f64.decode x).integral .zero=.number (decide (n<0)) n.natAbs 0:=by
 rw[h.d];unfold Ieee.Datum.integral;have e1:(-(k:Int)).toNat=0:=by omega
 have e2:(- -(k:Int)).toNat=k:=by omega
 simp only[e1,e2,Nat.shiftLeft_zero,cut_trunc]
theorem ftrunc {n:Int} (h:n.natAbs<2^53):truncW (fN n)=fN n∧finW (fN n)=true:=by
 obtain⟨k,r⟩:=rep h;constructor
 ·unfold truncW;rw[integral_rep r];rfl
 ·unfold finW;rw[r.d]
theorem fint {n:Int} (h:n.natAbs<2^53):fIv (fN n) .i64=some n:=by
 obtain⟨k,r⟩:=rep h;unfold fIv Ieee.Datum.toInt;rw[integral_rep r];have e:Ieee.signed (decide (n<0)) n.natAbs 0=n:=by
  have:=signed_up (n:=n) (k:=0) (u:=0);rw[Nat.pow_zero,Nat.mul_one] at this;rw[this];simp
 simp only[e];have hm:(IntKind.i64.min≤n∧n≤IntKind.i64.max):=by
  have h1:IntKind.i64.min= -9223372036854775808:=by decide
  have h2:IntKind.i64.max=9223372036854775807:=by decide
  rw[h1,h2];omega
 rw[decide_eq_true hm];rfl
theorem fwhole {n a b:Int} (h:n.natAbs<2^53) (ha:a.natAbs<2^53) (hb:b.natAbs<2^53):wholeW (fN n) (fN a) (fN b)=(decide (a≤n)&&decide (n≤b)):=by
 have o3:=ford h h;unfold wholeW fRel;simp only[(ftrunc h).1,ford h ha,ford h hb,o3,Int.compare_eq_eq.2 rfl];rcases Int.lt_trichotomy n a with h1|h1|h1
 ·rw[Int.compare_eq_lt.2 h1,decide_eq_false (show ¬a≤n by omega)];rfl
 ·rw[Int.compare_eq_eq.2 h1,decide_eq_true (show a≤n by omega)];rcases Int.lt_trichotomy n b with h2|h2|h2
  ·rw[Int.compare_eq_lt.2 h2,decide_eq_true (show n≤b by omega)];rfl
  ·rw[Int.compare_eq_eq.2 h2,decide_eq_true (show n≤b by omega)];rfl
  ·rw[Int.compare_eq_gt.2 h2,decide_eq_false (show ¬n≤b by omega)];rfl
 ·rw[Int.compare_eq_gt.2 h1,decide_eq_true (show a≤n by omega)];rcases Int.lt_trichotomy n b with h2|h2|h2
  ·rw[Int.compare_eq_lt.2 h2,decide_eq_true (show n≤b by omega)];rfl
  ·rw[Int.compare_eq_eq.2 h2,decide_eq_true (show n≤b by omega)];rfl
  ·rw[Int.compare_eq_gt.2 h2,decide_eq_false (show ¬n≤b by omega)];rfl
end Nice
namespace Nice
open Go Go.Eng
def lo (c:UInt8):UInt8:=if 65≤c∧c≤90 then c+32 else c
def lower (s:List UInt8):List UInt8:=s.map lo
def lowerP (s:List UInt8):Bool:=decide (s.length≤140737488355328)
def isCap (c:UInt8):Bool:=decide (65≤c∧c≤90)
def isDig (c:UInt8):Bool:=decide (48≤c∧c≤57)
def valueN:List (List UInt8×List UInt8×Unit)→List UInt8→List UInt8×Bool
 |[],_=>([],false)
 |h::r,n=>bif lower h.1==lower n then(h.2.1,true) else valueN r n
def valueP (l:List (List UInt8×List UInt8×Unit)) (n:List UInt8):Bool:=decide (l.length≤140737488355328)&&(lowerP n&&l.all fun h=>lowerP h.1)
def atoiN (s:List UInt8):Int×Bool:=match Lib.atoiAll s with
 | .ok v=>(v,true)
 |Lib.NumEnd.syntax=>(0,false)
 | .range=>(Lib.atoiSat s,false)
def atoiP (s:List UInt8):Bool:=decide (s.length≤140737488355328)
def allDig (s:List UInt8):Bool:=s.all isDig
def numV (s:List UInt8):Nat:=s.foldl (fun n c=>n*10+(c.toNat-48)) 0
def scanNum (s:List UInt8):Int×Bool:=bif allDig s then((atoiN s).1,(atoiN s).2&&decide (s.length≤6)) else(0,false)
def clen:List UInt8:=[99,111,110,116,101,110,116,45,108,101,110,103,116,104]
def tenc:List UInt8:=[116,114,97,110,115,102,101,114,45,101,110,99,111,100,105,110,103]
def scanLen (l:List (List UInt8×List UInt8×Unit)):Int:=bif (scanNum (valueN l clen).1).2 then(scanNum (valueN l clen).1).1 else 0
def scanLenP (l:List (List UInt8×List UInt8×Unit)):Bool:=valueP l clen&&atoiP (valueN l clen).1
def refNum (s:List UInt8) (most:Int):Int×Bool:=bif allDig s&&decide ((s.length:Int)≤most) then((numV s:Int),decide (1≤s.length)) else(0,false)
def refNumP (s:List UInt8) (most:Int):Bool:=decide (s.length≤140737488355328)&&decide (most≤18)
def refHeads:List (List UInt8×List UInt8×Unit)→List UInt8→Nat→Option (List UInt8×Nat)
 |[],n,k=>some (n,k)
 |h::r,n,k=>bif lower h.1==clen then refHeads r h.2.1 (k+1) else bif lower h.1==tenc then none else refHeads r n k
def refLenOut:Option (List UInt8×Nat)→Int×Int
 |none=>(0,400)
 |some (n,k)=>if k=0 then(0,0) else if 1<k∨(refNum n 6).2=false then(0,400) else if(refNum n 6).1>300 then((refNum n 6).1,413) else((refNum n 6).1,0)
def refLen (l:List (List UInt8×List UInt8×Unit)):Int×Int:=refLenOut (refHeads l [] 0)
def refLenP (l:List (List UInt8×List UInt8×Unit)):Bool:=decide (l.length≤140737488355328)&&l.all fun h=>lowerP h.1&&lowerP h.2.1
def cut (s:List UInt8) (n:Int):List UInt8:=s.take n.toNat
theorem cdT {α:Type} {p:Prop} [Decidable p] {a b:α} (h:p):(bif decide p then a else b)=a:=by simp[h]
theorem cdF {α:Type} {p:Prop} [Decidable p] {a b:α} (h:¬p):(bif decide p then a else b)=b:=by simp[h]
theorem gd_nil {α:Type} {r:Option α}:gd [] r=r:=rfl
theorem gdT {α:Type} {p:Prop} [Decidable p] {l:List Bool} {r:Option α} (h:p):gd (decide p::l) r=gd l r:=by simp[gd,h]
theorem gdB {α:Type} {b:Bool} {l:List Bool} {r:Option α} (h:b=true):gd (b::l) r=gd l r:=by simp[gd,h]
theorem inK_i64 {n:Int}:inK .i64 n↔ -9223372036854775808≤n∧n≤9223372036854775807:=Iff.rfl
theorem inK_u8 {n:Int}:inK .u8 n↔0≤n∧n≤255:=Iff.rfl
theorem wrap_u8 {n:Int}:IntKind.u8.wrap n=n%256:=rfl
theorem ofNat_lit (n:Nat):Int.ofNat (@OfNat.ofNat Nat n (instOfNatNat n))= @OfNat.ofNat Int n instOfNat:=rfl
theorem ofNatI (n:Nat):Int.ofNat n=(n:Int):=rfl
theorem getD_mid {α:Type} (a b:List α) (x d:α):(a++x::b).getD a.length d=x:=by simp
theorem set_mid {α:Type} (a b:List α) (x y:α):(a++x::b).set a.length y=a++y::b:=by simp
theorem le8 {a c:UInt8}:a≤c↔a.toNat≤c.toNat:=UInt8.le_iff_toNat_le
theorem isCap_iff {c:UInt8}:isCap c=true↔65≤c.toNat∧c.toNat≤90:=by
 unfold isCap;rw[decide_eq_true_iff,le8,le8];rfl
theorem isDig_iff {c:UInt8}:isDig c=true↔48≤c.toNat∧c.toNat≤57:=by
 unfold isDig;rw[decide_eq_true_iff,le8,le8];rfl
theorem lo_up {c:UInt8} (h1:65≤c.toNat) (h2:c.toNat≤90):lo c=UInt8.ofNat (c.toNat+32):=by
 unfold lo;rw[if_pos ⟨le8.2 h1,le8.2 h2⟩];apply UInt8.toNat.inj;simp
theorem lo_not {c:UInt8} (h:¬(65≤c.toNat∧c.toNat≤90)):lo c=c:=by
 unfold lo;rw[if_neg];rintro⟨h1,h2⟩;exact h ⟨le8.1 h1,le8.1 h2⟩
theorem u8_of (b:UInt8):UInt8.ofNat ((b.toNat:Int)).toNat=b:=by simp
theorem Bool.cond_self {α:Type} {b:Bool} {a:α}:(bif b then a else a)=a:=by cases b<;>rfl
abbrev HeadT:Ty:=.pair .str (.pair .str .unit)
abbrev ReqT:Ty:=.pair .str (.pair .str (.pair .str (.pair (.slice HeadT) (.pair .str .unit))))
noncomputable def trueS:PSpec:=⟨[],[.bool],fun _=>true,fun _=>(true,())⟩
noncomputable def lowerS:PSpec:=⟨[.str],[.str],fun x=>lowerP x.1,fun x=>(lower x.1,())⟩
noncomputable def capS:PSpec:=⟨[.byte],[.bool],fun _=>true,fun x=>(isCap x.1,())⟩
noncomputable def digS:PSpec:=⟨[.byte],[.bool],fun _=>true,fun x=>(isDig x.1,())⟩
noncomputable def atoiS:PSpec:=⟨[.str],[.int .i64,.err],fun x=>atoiP x.1,fun x=>((atoiN x.1).1,(atoiN x.1).2,())⟩
noncomputable def valueS:PSpec:=⟨[ReqT,.str],[.str,.bool],fun x=>valueP x.1.2.2.2.1 x.2.1,fun x=>((valueN x.1.2.2.2.1 x.2.1).1,(valueN x.1.2.2.2.1 x.2.1).2,())⟩
noncomputable def scanNumS:PSpec:=⟨[.str],[.int .i64,.bool],fun x=>atoiP x.1,fun x=>((scanNum x.1).1,(scanNum x.1).2,())⟩
noncomputable def scanLenS:PSpec:=⟨[ReqT],[.int .i64],fun x=>scanLenP x.1.2.2.2.1,fun x=>(scanLen x.1.2.2.2.1,())⟩
noncomputable def refNumS:PSpec:=⟨[.str,.int .i64],[.int .i64,.bool],fun x=>refNumP x.1 x.2.1,fun x=>((refNum x.1 x.2.1).1,(refNum x.1 x.2.1).2,())⟩
noncomputable def refLenS:PSpec:=⟨[ReqT],[.int .i64,.int .i64],fun x=>refLenP x.1.2.2.2.1,fun x=>((refLen x.1.2.2.2.1).1,(refLen x.1.2.2.2.1).2,())⟩
noncomputable def cutS:PSpec:=⟨[.str,.int .i64],[.str],fun x=>decide (0≤x.2.1),fun x=>(cut x.1 x.2.1,())⟩
end Nice
namespace Nice
open Go Go.Eng
def keyCh (c:UInt8):Bool:=decide (97≤c.toNat∧c.toNat≤122∨48≤c.toNat∧c.toNat≤57∨c.toNat=46∨c.toNat=45∨c.toNat=95∨c.toNat=47)
def isKey (s:List UInt8):Bool:=s.all keyCh&&(decide (1≤s.length)&&decide (s.length≤40))
def bndS (s:List UInt8):Bool:=decide (s.length≤140737488355328)
def notDig (r:Nat):Bool:=decide (r<48)||decide (57<r)
def idxF (s:List UInt8):Int:=Lib.idxFunc notDig true (bs s)
def intN (s:List UInt8):Int×Bool:=match Lib.parseIntB 64 s with
 | .ok v=>(v,true)
 |Lib.NumEnd.syntax=>(0,false)
 | .range=>(Lib.intSat 64 s,false)
def numN (s:List UInt8) (most lo hi:Int):Int×Bool:=((intN s).1,allDig s&&((intN s).2&&(decide ((s.length:Int)≤most)&&(decide ((intN s).1≥lo)&&decide ((intN s).1≤hi)))))
def hasPre (s p:List UInt8):Bool:=decide (p.length≤s.length)&&s.take p.length==p
def hasSuf (s p:List UInt8):Bool:=decide (p.length≤s.length)&&s.drop (s.length-p.length)==p
def cutPre (s p:List UInt8):List UInt8×Bool:=bif hasPre s p then(s.drop p.length,true) else(s,false)
def cutSuf (s p:List UInt8):List UInt8×Bool:=bif hasSuf s p then(s.take (s.length-p.length),true) else(s,false)
def digsF:Nat→Nat→List UInt8→List UInt8
 |0,_,acc=>acc
 |f+1,n,acc=>if n/10=0 then UInt8.ofNat (48+n%10)::acc else digsF f (n/10) (UInt8.ofNat (48+n%10)::acc)
def digs (u:Int):List UInt8:=digsF 20 u.toNat []
def digits (n:Int):List UInt8:=if n<0 then 45::digs (-n) else digs n
def vPre:List UInt8:=[118,101,114,115,105,111,110,61]
def keyedN (m q k:List UInt8):Int×Int×Bool:=
 bif isKey k then
  bif q==[] then(bif m==[68,69,76,69,84,69] then 3 else 1,0,true)
  else(bif m==[68,69,76,69,84,69] then 3 else 1,(numN (cutPre q vPre).1 (cutPre q vPre).1.length 1 1099511627776).1,(numN (cutPre q vPre).1 (cutPre q vPre).1.length 1 1099511627776).2&&((cutPre q vPre).2&& !((cutPre q vPre).1.getD 0 0==48)))
 else(0,0,false)
def keyedP (m q k:List UInt8):Bool:= !(m==[80,85,84])&&(bndS q&&bndS k)
def zAsk:Int×List UInt8×Int×List UInt8×Int×List UInt8×List UInt8×List UInt8×Int×Bool×Unit:=(0,[],0,[],0,[],[],[],0,false,())
def askV (q:List UInt8):(Int×List UInt8×Int×List UInt8×Int×List UInt8×List UInt8×List UInt8×Int×Bool×Unit)×Int:=
 bif (keyedN [71,69,84] q [107]).2.2 then(((keyedN [71,69,84] q [107]).1,[107],(keyedN [71,69,84] q [107]).2.1,[],0,[],[],[],0,false,()),0) else(zAsk,400)
theorem decode_ascii {s:ByteArray} {i:Nat} (h:(s.get! i).toNat<128):Utf8.decode s i=((s.get! i).toNat,1):=by
 unfold Utf8.decode;simp only[Nat.add_zero];rw[if_pos (show(s.get! i).toNat<0x80 from h)]
theorem decode_high {s:ByteArray} {i:Nat} (h:128≤(s.get! i).toNat):57<(Utf8.decode s i).1:=by
 unfold Utf8.decode;simp only[Nat.add_zero];rw[if_neg (show ¬(s.get! i).toNat<0x80 by omega)];have hr:57<Utf8.runeError:=by decide
 have hge:∀(c:Nat) (b:Bool) (k:Nat),c≥k→57<k→57<c:=fun c b k h1 h2=>by omega
 repeat' split
 all_goals first
  |exact hr
  |(rename_i h1;simp only[Bool.and_eq_true,decide_eq_true_eq] at h1;omega)
  |(rename_i h1;have h1:=of_decide_eq_true h1;omega)
  |(rename_i h1;omega)
theorem idx_l (s:ByteArray):∀(f pos:Nat),s.size-pos≤f→decide (Lib.idxFuncFrom notDig true s f pos≥0)= !((s.data.toList.drop pos).all isDig)
 |0,pos,h=>by
  have:s.data.toList.drop pos=[]:=List.drop_eq_nil_of_le (by show s.data.toList.length≤pos;have:s.data.toList.length=s.size:=rfl;omega);rw[this];simp[Lib.idxFuncFrom]
 |f+1,pos,h=>by
  unfold Lib.idxFuncFrom;by_cases hp:pos<s.size
  ·rw[if_pos hp];have hp':pos<s.data.toList.length:=hp;have hd:s.data.toList.drop pos=s.get! pos::s.data.toList.drop (pos+1):=by
    rw[List.drop_eq_getElem_cons hp'];congr 1;show _=s.data[pos]!;rw[getElem!_pos s.data pos hp];rfl
   rw[hd];simp only[List.all_cons];by_cases ha:(s.get! pos).toNat<128
   ·rw[decode_ascii ha];by_cases hdg:48≤(s.get! pos).toNat∧(s.get! pos).toNat≤57
    ·rw[if_neg (by simp only[notDig,Bool.or_eq_true,decide_eq_true_eq];omega),isDig_iff.2 hdg,Bool.true_and];exact idx_l s f (pos+1) (by omega)
    ·have:isDig (s.get! pos)=false:=by cases hb:isDig (s.get! pos);rfl;exact absurd (isDig_iff.1 hb) hdg
     rw[if_pos (by simp only[notDig,Bool.or_eq_true,decide_eq_true_eq];omega),this];simp
   ·have:=decode_high (s:=s) (i:=pos) (by omega);have hd:isDig (s.get! pos)=false:=by cases hb:isDig (s.get! pos);rfl;have:=isDig_iff.1 hb;omega
    rw[if_pos (by simp only[notDig,Bool.or_eq_true,decide_eq_true_eq];omega),hd];simp
  ·rw[if_neg hp];have:s.data.toList.drop pos=[]:=List.drop_eq_nil_of_le (by have:s.data.toList.length=s.size:=rfl;omega);rw[this];rfl
theorem idxF_ge (s:List UInt8):decide (idxF s≥0)= !allDig s:=by
 have:=idx_l (bs s) (bs s).size 0 (by omega);simpa[idxF,Lib.idxFunc,allDig,bs] using this
abbrev AskT:Ty:=.pair (.int .i64) (.pair .str (.pair (.int .i64) (.pair .str (.pair (.int .i64) (.pair .str (.pair .str (.pair .str (.pair (.int .i64) (.pair .bool .unit)))))))))
noncomputable def noS (ts rs:List Ty):PSpec:=⟨ts,rs,fun _=>false,fun _=>dfltL rs⟩
noncomputable def keyChS:PSpec:=⟨[.byte],[.bool],fun _=>true,fun x=>(keyCh x.1,())⟩
noncomputable def isKeyS:PSpec:=⟨[.str],[.bool],fun x=>bndS x.1,fun x=>(isKey x.1,())⟩
noncomputable def notDigS:PSpec:=⟨[.int .i32],[.bool],fun _=>true,fun x=>(decide (x.1<48)||decide (57<x.1),())⟩
noncomputable def idxFS (f:Nat):PSpec:=⟨[.str,.fn f],[.int .i64],fun _=>true,fun x=>(idxF x.1,())⟩
noncomputable def parseS:PSpec:=⟨[.str,.int .i64,.int .i64],[.int .i64,.err],fun x=>bndS x.1&&(decide (x.2.1=10)&&decide (x.2.2.1=64)),fun x=>((intN x.1).1,(intN x.1).2,())⟩
noncomputable def numS:PSpec:=⟨[.str,.int .i64,.int .i64,.int .i64],[.int .i64,.bool],fun x=>bndS x.1,fun x=>((numN x.1 x.2.1 x.2.2.1 x.2.2.2.1).1,(numN x.1 x.2.1 x.2.2.1 x.2.2.2.1).2,())⟩
noncomputable def hasPreS:PSpec:=⟨[.str,.str],[.bool],fun _=>true,fun x=>(hasPre x.1 x.2.1,())⟩
noncomputable def hasSufS:PSpec:=⟨[.str,.str],[.bool],fun _=>true,fun x=>(hasSuf x.1 x.2.1,())⟩
noncomputable def cutPreS:PSpec:=⟨[.str,.str],[.str,.bool],fun _=>true,fun x=>((cutPre x.1 x.2.1).1,(cutPre x.1 x.2.1).2,())⟩
noncomputable def cutSufS:PSpec:=⟨[.str,.str],[.str,.bool],fun _=>true,fun x=>((cutSuf x.1 x.2.1).1,(cutSuf x.1 x.2.1).2,())⟩
noncomputable def keyedS:PSpec:=⟨[AskT,ReqT],[AskT,.bool],fun x=>keyedP x.2.1.1 x.2.1.2.2.1 x.1.2.1&&(x.1.1==(0:Int)&&x.1.2.2.1==(0:Int)),fun x=>(((keyedN x.2.1.1 x.2.1.2.2.1 x.1.2.1).1,x.1.2.1,(keyedN x.2.1.1 x.2.1.2.2.1 x.1.2.1).2.1,x.1.2.2.2),(keyedN x.2.1.1 x.2.1.2.2.1 x.1.2.1).2.2,())⟩
noncomputable def digsS:PSpec:=⟨[.int .u64],[.str],fun x=>decide (0≤x.1)&&decide (x.1<18446744073709551616),fun x=>(digs x.1,())⟩
noncomputable def digitsS:PSpec:=⟨[.int .i64],[.str],fun x=>decide (-9223372036854775808≤x.1)&&decide (x.1≤9223372036854775807),fun x=>(digits x.1,())⟩
noncomputable def ofVS:PSpec:=⟨[ReqT],[AskT,.int .i64],fun x=>(x.1.1==[71,69,84]&&x.1.2.1==[47,111,47,107])&&(x.1.2.2.2.2.1==[]&&bndS x.1.2.2.1),fun x=>((askV x.1.2.2.1).1,(askV x.1.2.2.1).2,())⟩
def isGet (m:List UInt8):Bool:=m==[71,69,84]
def isHead (m:List UInt8):Bool:=m==[72,69,65,68]
def isPut (m:List UInt8):Bool:=m==[80,85,84]
def isDel (m:List UInt8):Bool:=m==[68,69,76,69,84,69]
def isList (p:List UInt8):Bool:=p==[47,111]||p==[47,111,47]
def pathN (m p:List UInt8):(Int×List UInt8×Int×List UInt8×Int×List UInt8×List UInt8×List UInt8×Int×Bool×Unit)×Int:=
 bif !isList p&& !hasPre p [47,111,47] then(zAsk,404)
 else bif !(isGet m||isHead m)&&(isList p||(!isPut m&& !isDel m)) then(zAsk,405)
 else bif isList p then((4,[],0,[],0,[],[],[],20,isHead m,()),0)
 else bif isKey (p.drop 3) then((bif isPut m then 2 else bif isDel m then 3 else 1,p.drop 3,0,[],0,[],[],[],0,isHead m,()),0)
 else(zAsk,400)
noncomputable def condsZS:PSpec:=⟨[ReqT],[.int .i64,.str,.bool],fun x=>x.1.2.2.2.1.isEmpty,fun _=>((0:Int),([]:List UInt8),true,())⟩
noncomputable def listedZS:PSpec:=⟨[AskT,.str],[AskT,.bool],fun x=>x.2.1.isEmpty,fun x=>(((4:Int),x.1.2.1,x.1.2.2.1,x.1.2.2.2.1,x.1.2.2.2.2.1,x.1.2.2.2.2.2.1,x.1.2.2.2.2.2.2.1,x.1.2.2.2.2.2.2.2.1,(20:Int),x.1.2.2.2.2.2.2.2.2.2.1,()),true,())⟩
noncomputable def partsZS:PSpec:=⟨[.str,AskT],[AskT,.bool],fun x=>x.1.isEmpty,fun x=>(x.2.1,true,())⟩
noncomputable def rcondsZS:PSpec:=⟨[ReqT,AskT],[AskT,.int .i64],fun x=>x.1.2.2.2.1.isEmpty,fun x=>(x.2.1,(0:Int),())⟩
def keyedZN (m k:List UInt8):Int:=bif isKey k then(bif isPut m then 2 else bif isDel m then 3 else 1) else 0
noncomputable def keyedZS:PSpec:=⟨[AskT,ReqT],[AskT,.bool],fun x=>((x.2.1.2.2.1.isEmpty&&x.2.1.2.2.2.1.isEmpty)&&(x.2.1.2.2.2.2.1.isEmpty&&bndS x.1.2.1))&&((x.1.1==(0:Int)&&x.1.2.2.2.1.isEmpty)&&(x.1.2.2.2.2.1==(0:Int)&&x.1.2.2.2.2.2.1.isEmpty)),fun x=>((keyedZN x.2.1.1 x.1.2.1,x.1.2.1,x.1.2.2.1,x.1.2.2.2.1,x.1.2.2.2.2.1,x.1.2.2.2.2.2.1,x.1.2.2.2.2.2.2.1,x.1.2.2.2.2.2.2.2.1,x.1.2.2.2.2.2.2.2.2.1,x.1.2.2.2.2.2.2.2.2.2.1,()),isKey x.1.2.1,())⟩
noncomputable def ofPS:PSpec:=⟨[ReqT],[AskT,.int .i64],fun x=>(x.1.2.2.1.isEmpty&&x.1.2.2.2.1.isEmpty)&&(x.1.2.2.2.2.1.isEmpty&&bndS x.1.2.1),fun x=>((pathN x.1.1 x.1.2.1).1,(pathN x.1.1 x.1.2.1).2,())⟩
end Nice
namespace Nice
open Go Go.Eng
def isHx (c:UInt8):Bool:=decide (48≤c.toNat∧c.toNat≤57∨97≤c.toNat∧c.toNat≤102)
def hx (c:UInt8):Int:=bif decide (c.toNat≤57) then(c.toNat:Int)-48 else(c.toNat:Int)-87
def rdF:List UInt8→Nat→Int→Int→Option (Int×Int)
 |[],_,a,b=>some (a,b)
 |c::r,i,a,b=>bif isHx c then(bif decide (i<4) then rdF r (i+1) (a*16+hx c) b else rdF r (i+1) a (b*16+hx c)) else none
def rdZ (s:List UInt8):Option (Int×Int):=bif decide (s.length=8) then(match rdF s 0 0 0 with
 |some z=>bif decide (z.1<65521)&&decide (z.2<65521) then some z else none
 |none=>none) else none
def gRead (s:List UInt8):(Nat×Nat)×Bool:=match rdZ s with
 |some z=>((FloatKind.f64.nearest z.1,FloatKind.f64.nearest z.2),true)
 |none=>((0,0),false)
def rRead (s:List UInt8):(Int×Int×Unit)×Bool:=match rdZ s with
 |some z=>((z.1,z.2,()),true)
 |none=>((0,0,()),false)
def mayW (a b:Nat):Bool:=wholeW a 0 4679237813814689792&&wholeW b 0 4679237813814689792
abbrev ZT:Ty:=.pair (.int .i64) (.pair (.int .i64) .unit)
noncomputable def archS:PSpec:=⟨[.f64],[.f64],fun x=>finW x.1,fun x=>(truncW x.1,())⟩
noncomputable def wholeS:PSpec:=⟨[.f64,.f64,.f64],[.bool],fun x=>finW x.1,fun x=>(wholeW x.1 x.2.1 x.2.2.1,())⟩
noncomputable def mayS:PSpec:=⟨[.cx],[.bool],fun x=>finW x.1.1&&finW x.1.2,fun x=>(mayW x.1.1 x.1.2,())⟩
noncomputable def gReadS:PSpec:=⟨[.str],[.cx,.bool],fun _=>true,fun x=>((gRead x.1).1,(gRead x.1).2,())⟩
noncomputable def rReadS:PSpec:=⟨[.str],[ZT,.bool],fun _=>true,fun x=>((rRead x.1).1,(rRead x.1).2,())⟩
end Nice
namespace Go.Proofs.YtikedhemjoljpaaGreatDoor
open Go Go.Eng Nice Go.RowKit
set_option maxRecDepth 1000000
set_option maxRecDepth 1000000
theorem xT {α:Type} (a b:α):(bif true then a else b)=a:=Eq.trans (cond_true a b) rfl
theorem xG {α:Type} (r:Option α):gd [] r=r:=Eq.trans gd_nil rfl
theorem pc_mk {f:FuncId} {S:PSpec} (h:∀(fz:Nat→Option (Array Value)) (w:World) (args:Array Value) (x:DenL S.ts),GlW glC w→RdAll fz S.ts x args.toList→S.pre x=true→
  Calls Tryz.prog f args w fun e w'=>∃vs,e=.returned (resV vs)∧RdAll fz S.rs (S.g x) vs∧Same w w'):PC f S:=by
 intro fz w args x hfz hgl hr hp;refine(h fz w args x hgl hr hp).mono ?_;rintro e w' ⟨vs,rfl,hv,hs⟩;have hlt:∀b c,fz b=some c→b<w.heap.size:=fun b c hb=>by
  obtain⟨e,fr,h⟩:=hfz b c hb;exact(Array.getElem?_eq_some_iff.1 h).1
 exact⟨vs,fz,rfl,fun _ _ h=>h,hfz.keep fun b c hb=>hs.2.2.2 b (hlt b c hb),fun _ _ h=>.inl h,hv,hs⟩
theorem rd_cons' {fz:Nat→Option (Array Value)} {t:Ty} {ts:List Ty} {x:DenL (t::ts)} {l:List Value} (ht:t.agg=false) (h:RdAll fz (t::ts) x l):∃v r,l=v::r∧RdC fz t x.1 [v]∧RdAll fz ts x.2 r:=by
 obtain⟨v,r,e,hv,hr⟩:=h;rcases hv with⟨h,_⟩|⟨_,hv⟩
 ·rw[ht] at h;cases h
 ·exact⟨v,r,e,hv,hr⟩
abbrev shwhole:List (Nat×List (Nat×Sh)):=[]
noncomputable def owhole (x:DenL [.f64,.f64,.f64]):Option (DenL [.bool]):=fO Tryz.prog (envS [(321,archS)]) (shOf shwhole) Tryz.f254 [.f64,.f64,.f64] [.bool] x
theorem ewhole_g (N:Nat) (x0 x1 x2:Nat):fON Tryz.prog (envS [(321,archS)]) (shOf shwhole) Tryz.f254 [.f64,.f64,.f64] [.bool] N (x0,x1,x2,())=
 (bif fRel BinOp.geq FloatKind.f64 x0 x1 then
  (bif fRel BinOp.leq FloatKind.f64 x0 x2 then
   (bif fRel BinOp.eql FloatKind.f64 x0 (truncW x0) then
    (gd [finW x0] (some (true,())))
   else
    (gd [finW x0] (some (false,()))))
  else
   (some (false,())))
 else
  (some (false,()))):=by kernel_rfl
theorem owhole_g (x:DenL [.f64,.f64,.f64]):owhole x=fON Tryz.prog (envS [(321,archS)]) (shOf shwhole) Tryz.f254 [.f64,.f64,.f64] [.bool] heads0 x:=rfl
abbrev shgmay:List (Nat×List (Nat×Sh)):=[]
noncomputable def ogmay (x:DenL [.cx]):Option (DenL [.bool]):=fO Tryz.prog (envS [(254,wholeS)]) (shOf shgmay) Tryz.f174 [.cx] [.bool] x
theorem egmay_g (N:Nat) (x0:Nat×Nat):fON Tryz.prog (envS [(254,wholeS)]) (shOf shgmay) Tryz.f174 [.cx] [.bool] N (x0,())=
 (bif wholeW x0.fst 0 4679237813814689792 then
  (bif wholeW x0.snd 0 4679237813814689792 then
   (gd [finW x0.snd,finW x0.fst] (some (true,())))
  else
   (gd [finW x0.snd,finW x0.fst] (some (false,()))))
 else
  (gd [finW x0.fst] (some (false,())))):=by kernel_rfl
theorem ogmay_g (x:DenL [.cx]):ogmay x=fON Tryz.prog (envS [(254,wholeS)]) (shOf shgmay) Tryz.f174 [.cx] [.bool] heads0 x:=rfl
end Go.Proofs.YtikedhemjoljpaaGreatDoor
namespace Nice
open Go Go.Eng Go.Proofs.YtikedhemjoljpaaGreatDoor
set_option maxRecDepth 1000000
theorem may_n {a b:Int} (h1:0≤a) (h2:a<65536) (h3:0≤b) (h4:b<65536):(finW (FloatKind.f64.nearest a)&&finW (FloatKind.f64.nearest b))=true∧mayW (FloatKind.f64.nearest a) (FloatKind.f64.nearest b)=(decide (a<65521)&&decide (b<65521)):=by
 obtain⟨m,rfl⟩:∃m:Nat,a=(m:Int):=⟨a.toNat,by omega⟩
 obtain⟨k,rfl⟩:∃k:Nat,b=(k:Int):=⟨b.toNat,by omega⟩
 obtain⟨w1,w2⟩:=whole_n (n:=m) (by omega);obtain⟨w3,w4⟩:=whole_n (n:=k) (by omega);refine⟨by rw[w1,w3];rfl,?_⟩;have e1:decide (m<65521)=decide ((m:Int)<65521):=by rw[decide_eq_decide];omega
 have e2:decide (k<65521)=decide ((k:Int)<65521):=by rw[decide_eq_decide];omega
 unfold mayW;rw[w2,w4,e1,e2]
theorem whole_nn (x a b:Nat) (h:finW x=true):owhole (x,a,b,())=some (wholeW x a b,()):=by
 rw[owhole_g,ewhole_g];unfold wholeW;cases fRel .geq .f64 x a<;>cases fRel .leq .f64 x b<;>cases fRel .eql .f64 x (truncW x)<;>simp[gd,h]
theorem gmay_nn (z:Nat×Nat) (h:(finW z.1&&finW z.2)=true):ogmay (z,())=some (mayW z.1 z.2,()):=by
 rw[Bool.and_eq_true] at h;rw[ogmay_g,egmay_g];unfold mayW;cases wholeW z.1 0 4679237813814689792<;>cases wholeW z.2 0 4679237813814689792<;>simp[gd,h.1,h.2]
end Nice
namespace Go.Proofs.YtikedhemjoljpaaGreatDoor
open Go Go.Eng Nice Go.RowKit
set_option maxRecDepth 1000000
theorem arch_run {x:Nat} (h:finW x=true) (w:World):(callFunc 369 #[.float .f64 x]).run Tryz.prog w=.ok (.value (.float .f64 (truncW x))) w:=by
 rw[run_callFunc_extern Tryz.func369 (by kernel_rfl) (by kernel_rfl) (by kernel_rfl) (by kernel_rfl:Extern.find Tryz.f369=some (Extern.MathFloor.toIntegral "math.archTrunc" .zero))];have e:Extern.MathFloor.toIntegral "math.archTrunc" .zero #[.float .f64 x]=Pure.pure (.float .f64 (truncW x)):=by
  show(match FloatKind.f64.decode x with
   | .nan s t=>_
   |d=>_)=_
  unfold finW at h;unfold truncW
  split
  ·rename_i hd;rw[hd] at h;cases h
  ·rfl
 rw[e];rfl
theorem trunc_c:PC 321 archS:=pc_mk fun fz w args x hgl hr hp=>by
 obtain⟨x,⟨⟩⟩:=x;obtain⟨_,r3,e1,h1,hr1⟩:=rd_cons' rfl hr;obtain rfl:r3=[]:=hr1;cases h1;have ha:args=#[.float .f64 x]:=Array.toList_inj.1 e1;subst ha
 go_enter Tryz.func321,Tryz.ntmps321
 go_wp2
 rw[arch_run hp]
 go_wp2
 go_ret
 exact⟨[.float .f64 (truncW x)],rfl,⟨_,_,rfl,.inr ⟨rfl,rfl⟩,rfl⟩,⟨Nat.le_refl _,rfl,rfl,fun _ _=>rfl⟩⟩
theorem whole_c:PC 254 wholeS:=(pureO (envS_ok (l:=[(321,archS)]) ⟨trunc_c,trivial⟩) gl_ne Tryz.func254 (by kernel_rfl) (by decide)).nice fun⟨x,a,b,()⟩ h=>whole_nn x a b h
theorem may_c:PC 174 mayS:=(pureO (envS_ok (l:=[(254,wholeS)]) ⟨whole_c,trivial⟩) gl_ne Tryz.func174 (by kernel_rfl) (by decide)).nice fun⟨z,()⟩ h=>gmay_nn z h
end Go.Proofs.YtikedhemjoljpaaGreatDoor
namespace Nice
open Go Go.Eng
abbrev ZW:Type:=Int×Int×Unit
def modN (n:Int):Int:=bif decide (n.tmod 65521<0) then n.tmod 65521+65521 else n.tmod 65521
def zB (z:ZW):Bool:=decide (0≤z.1∧z.1≤70000∧0≤z.2.1∧z.2.1≤70000)
def zaddN (a b:ZW):ZW:=(modN (a.1+b.1),modN (a.2.1+b.2.1),())
def zmulN (a b:ZW):ZW:=(modN (a.1*b.1-a.2.1*b.2.1),modN (a.1*b.2.1+a.2.1*b.1),())
def onN (z:ZW) (s:List UInt8):ZW:=s.foldl (fun z c=>zaddN (zmulN z (3,5,())) ((c.toNat:Int)+1,0,())) z
def hexW:List UInt8:=[48,49,50,51,52,53,54,55,56,57,97,98,99,100,101,102]
def hexD (n:Int):UInt8:=UInt8.ofNat ((hexW.getD n.toNat 0).toNat:Int).toNat
def fourN (n:Int):List UInt8:=[hexD ((n.tdiv 4096).tmod 16),hexD ((n.tdiv 256).tmod 16),hexD ((n.tdiv 16).tmod 16),hexD (n.tmod 16)]
def fourP (n:Int):Bool:=decide (0≤n∧n≤70000)
def textN (z:ZW):List UInt8:=fourN z.1++fourN z.2.1
def markN (s:List UInt8):ZW:=onN (0,1,()) s
def tagN (s:List UInt8):List UInt8:=textN (markN s)
abbrev ZT2:Ty:=.pair (.int .i64) (.pair (.int .i64) .unit)
noncomputable def modS:PSpec:=⟨[.int .i64],[.int .i64],fun _=>true,fun x=>(modN x.1,())⟩
noncomputable def zaddS:PSpec:=⟨[ZT2,ZT2],[ZT2],fun x=>zB x.1&&zB x.2.1,fun x=>(zaddN x.1 x.2.1,())⟩
noncomputable def zmulS:PSpec:=⟨[ZT2,ZT2],[ZT2],fun x=>zB x.1&&zB x.2.1,fun x=>(zmulN x.1 x.2.1,())⟩
noncomputable def onS:PSpec:=⟨[ZT2,.str],[ZT2],fun x=>zB x.1&&bndS x.2.1,fun x=>(onN x.1 x.2.1,())⟩
noncomputable def fourS:PSpec:=⟨[.int .i64],[.str],fun x=>fourP x.1,fun x=>(fourN x.1,())⟩
noncomputable def textS:PSpec:=⟨[ZT2],[.str],fun x=>zB x.1,fun x=>(textN x.1,())⟩
noncomputable def markS:PSpec:=⟨[.str],[ZT2],fun x=>bndS x.1,fun x=>(markN x.1,())⟩
noncomputable def tagS:PSpec:=⟨[.str],[.str],fun x=>bndS x.1,fun x=>(tagN x.1,())⟩
theorem tmod_b (n:Int): -65521<n.tmod 65521∧n.tmod 65521<65521:=by
 rcases Int.le_total 0 n with h|h
 ·rw[Int.tmod_eq_emod_of_nonneg h];omega
 ·obtain⟨u,rfl⟩:∃u,n= -u:=⟨-n,by omega⟩
  rw[Int.neg_tmod,Int.tmod_eq_emod_of_nonneg (by omega)];omega
theorem modN_b (n:Int):0≤modN n∧modN n<65521:=by
 have:=tmod_b n;unfold modN;by_cases h:n.tmod 65521<0
 ·rw[cdT h];omega
 ·rw[cdF h];omega
theorem zB_iff {z:ZW}:zB z=true↔(0≤z.1∧z.1≤70000∧0≤z.2.1∧z.2.1≤70000):=decide_eq_true_iff
theorem zadd_b (a b:ZW):zB (zaddN a b)=true:=by
 have h1:=modN_b (a.1+b.1);have h2:=modN_b (a.2.1+b.2.1);exact zB_iff.2 ⟨h1.1,by show modN _≤_;omega,h2.1,by show modN _≤_;omega⟩
theorem zmul_b (a b:ZW):zB (zmulN a b)=true:=by
 have h1:=modN_b (a.1*b.1-a.2.1*b.2.1);have h2:=modN_b (a.1*b.2.1+a.2.1*b.1);exact zB_iff.2 ⟨h1.1,by show modN _≤_;omega,h2.1,by show modN _≤_;omega⟩
theorem on_b:∀(s:List UInt8) (z:ZW),zB z=true→zB (onN z s)=true
 |[],_,h=>h
 |_::s,_,_=>on_b s _ (zadd_b _ _)
theorem tagN_len (s:List UInt8):(tagN s).length=8:=rfl
theorem mul_bd {a b:Int} (h1:0≤a) (h2:a≤70000) (h3:0≤b) (h4:b≤70000):0≤a*b∧a*b≤4900000000:=
 ⟨Int.mul_nonneg h1 h3,by
  have:=Int.mul_le_mul h2 h4 h3 (by omega);omega⟩
theorem tdiv_bd {n k:Int} (h0:0≤n) (h1:n≤70000) (hk:1≤k):0≤n.tdiv k∧n.tdiv k≤70000:=by
 rw[Int.tdiv_eq_ediv_of_nonneg h0];exact⟨Int.ediv_nonneg h0 (by omega),Int.le_trans (Int.ediv_le_self k h0) h1⟩
theorem tmod16 {n:Int} (h0:0≤n):0≤n.tmod 16∧n.tmod 16<16:=by
 rw[Int.tmod_eq_emod_of_nonneg h0];omega
end Nice
namespace Nice
open Go Go.Eng
def un (w:Nat):Int:=(fIv w .i64).getD 0
def okR (lo hi:Int) (w:Nat):Bool:=decide (w=fN (un w))&&(decide (lo≤un w)&&decide (un w≤hi))
def okF (w:Nat):Bool:=okR 0 65520 w
def okM (w:Nat):Bool:=okR (-1125899906842624) 1125899906842624 w
def okC (z:Nat×Nat):Bool:=okF z.1&&okF z.2
def cz (z:Nat×Nat):ZW:=(un z.1,un z.2,())
def cf (z:ZW):Nat×Nat:=(fN z.1,fN z.2.1)
def partW (w:Nat):Nat:=fN (modN (un w))
noncomputable def partS:PSpec:=⟨[.f64],[.f64],fun x=>okM x.1,fun x=>(partW x.1,())⟩
noncomputable def gmodS:PSpec:=⟨[.cx],[.cx],fun x=>okM x.1.1&&okM x.1.2,fun x=>((partW x.1.1,partW x.1.2),())⟩
noncomputable def gaddS:PSpec:=⟨[.cx,.cx],[.cx],fun x=>okC x.1&&okC x.2.1,fun x=>(cf (zaddN (cz x.1) (cz x.2.1)),())⟩
noncomputable def gmulS:PSpec:=⟨[.cx,.cx],[.cx],fun x=>okC x.1&&okC x.2.1,fun x=>(cf (zmulN (cz x.1) (cz x.2.1)),())⟩
noncomputable def gonS:PSpec:=⟨[.cx,.slice .byte],[.cx],fun x=>okC x.1&&bndS x.2.1,fun x=>(cf (onN (cz x.1) x.2.1),())⟩
noncomputable def gmarkS:PSpec:=⟨[.slice .byte],[.cx],fun x=>bndS x.1,fun x=>(cf (markN x.1),())⟩
noncomputable def gtextS:PSpec:=⟨[.cx],[.str],fun x=>okC x.1,fun x=>(textN (cz x.1),())⟩
noncomputable def gtagS:PSpec:=⟨[.str],[.str],fun x=>bndS x.1,fun x=>(tagN x.1,())⟩
theorem un_fN {n:Int} (h:n.natAbs<2^53):un (fN n)=n:=by unfold un;rw[fint h];rfl
theorem okR_iff {lo hi:Int} {w:Nat} (hl: -2000000000000000≤lo) (hh:hi≤2000000000000000):okR lo hi w=true↔∃n:Int,lo≤n∧n≤hi∧w=fN n:=by
 unfold okR;rw[Bool.and_eq_true,Bool.and_eq_true,decide_eq_true_eq,decide_eq_true_eq,decide_eq_true_eq];constructor
 ·rintro⟨a,b,c⟩;exact⟨un w,b,c,a⟩
 ·rintro⟨n,a,b,rfl⟩;rw[un_fN (by omega)];exact⟨rfl,a,b⟩
theorem okF_iff {w:Nat}:okF w=true↔∃n:Int,0≤n∧n≤65520∧w=fN n:=okR_iff (by decide) (by decide)
theorem okM_iff {w:Nat}:okM w=true↔∃n:Int, -1125899906842624≤n∧n≤1125899906842624∧w=fN n:=okR_iff (by decide) (by decide)
theorem okM_of {n:Int} (h1: -1125899906842624≤n) (h2:n≤1125899906842624):okM (fN n)=true:=okM_iff.2 ⟨n,h1,h2,rfl⟩
theorem okF_of {n:Int} (h1:0≤n) (h2:n≤65520):okF (fN n)=true:=okF_iff.2 ⟨n,h1,h2,rfl⟩
theorem okC_cf {z:ZW} (h1:0≤z.1∧z.1<65521) (h2:0≤z.2.1∧z.2.1<65521):okC (cf z)=true:=by
 unfold okC cf;rw[Bool.and_eq_true];exact⟨okF_of h1.1 (by omega),okF_of h2.1 (by omega)⟩
theorem cz_cf {z:ZW} (h1:0≤z.1∧z.1<65521) (h2:0≤z.2.1∧z.2.1<65521):cz (cf z)=z:=by
 obtain⟨a,b,⟨⟩⟩:=z;show(un (fN a),un (fN b),())=(a,b,());have h1:0≤a∧a<65521:=h1;have h2:0≤b∧b<65521:=h2;rw[un_fN (by omega),un_fN (by omega)]
theorem zadd_m (a b:ZW):(0≤(zaddN a b).1∧(zaddN a b).1<65521)∧0≤(zaddN a b).2.1∧(zaddN a b).2.1<65521:=⟨modN_b _,modN_b _⟩
theorem zmul_m (a b:ZW):(0≤(zmulN a b).1∧(zmulN a b).1<65521)∧0≤(zmulN a b).2.1∧(zmulN a b).2.1<65521:=⟨modN_b _,modN_b _⟩
theorem may_ok {a b:Int} (h1:0≤a) (h2:a≤65520) (h3:0≤b) (h4:b≤65520):(finW (fN a)&&finW (fN b))=true∧mayW (fN a) (fN b)=true:=by
 obtain⟨e1,e2⟩:=may_n h1 (by omega) h3 (by omega);refine⟨e1,e2.trans ?_⟩;rw[decide_eq_true (show a<65521 by omega),decide_eq_true (show b<65521 by omega)];rfl
theorem fAdd {a b:Int} (ha:0≤a) (hb:0≤b) (h:a+b<9007199254740992):fOk .add (fN a) (fN b)=true∧fA .add (fN a) (fN b)=fN (a+b):=by
 unfold fOk fA;rw[fadd ha hb h];exact⟨rfl,rfl⟩
theorem fSub {a b:Int} (ha:0≤a) (hb:0≤b) (h1:a<9007199254740992) (h2:b<9007199254740992):fOk .sub (fN a) (fN b)=true∧fA .sub (fN a) (fN b)=fN (a-b):=by
 unfold fOk fA;rw[fsub ha hb h1 h2];exact⟨rfl,rfl⟩
theorem fMul {a b:Int} (ha:0≤a) (hb:0≤b) (h1:a≤65521) (h2:b≤65521):fOk .mul (fN a) (fN b)=true∧fA .mul (fN a) (fN b)=fN (a*b):=by
 have hm:a*b≤65521*65521:=Int.mul_le_mul h1 h2 hb (by decide);unfold fOk fA;rw[fmul ha hb (by omega) (by omega) (by omega)];exact⟨rfl,rfl⟩
theorem c50:(4832362400168542208:Nat)=fN 1125899906842624:=by decide
theorem c50n:(14055734437023318016:Nat)=fN (-1125899906842624):=by decide
theorem c1:(4607182418800017408:Nat)=fN 1:=by decide
theorem c3:(4613937818241073152:Nat)=fN 3:=by decide
theorem c5:(4617315517961601024:Nat)=fN 5:=by decide
theorem c0:(0:Nat)=fN 0:=by decide
end Nice
namespace Go.Proofs.YtikedhemjoljpaaGreatDoor
open Go Go.Eng Nice Go.RowKit
set_option maxRecDepth 1000000
noncomputable def opart (x:DenL [.f64]):Option (DenL [.f64]):=fO Tryz.prog (envS []) (shOf []) Tryz.f371 [.f64] [.f64] x
theorem epart (x:Nat):opart (x,())=gd [(fIv x .i64).isSome] (bif decide (((fIv x .i64).getD 0).tmod 65521<0) then gd [decide (inK .i64 (((fIv x .i64).getD 0).tmod 65521+65521))] (some (fN (((fIv x .i64).getD 0).tmod 65521+65521),())) else some (fN (((fIv x .i64).getD 0).tmod 65521),())):=by kernel_rfl
theorem part_c:PC 371 partS:=(pureO (envS_ok (l:=[]) trivial) gl_ne Tryz.func371 (by kernel_rfl) (by decide)).nice fun⟨x,()⟩ h=>by
 obtain⟨n,h1,h2,rfl⟩:=okM_iff.1 h;have ht:=tmod_b n;have hu:un (fN n)=n:=un_fN (by omega);show opart _=some (fN (modN (un (fN n))),());rw[epart,hu,fint (by omega),gdB (b:=(some n).isSome) rfl,xG,Option.getD_some];unfold modN;by_cases h:n.tmod 65521<0
 ·rw[cdT h,cdT h,gdT (inK_i64.2 ⟨by omega,by omega⟩),xG]
 ·rw[cdF h,cdF h]
noncomputable def ogmod (x:DenL [.cx]):Option (DenL [.cx]):=fO Tryz.prog (envS [(254,wholeS),(371,partS)]) (shOf []) Tryz.f322 [.cx] [.cx] x
theorem egmod (a b:Nat):ogmod ((a,b),())=(bif wholeW a 14055734437023318016 4832362400168542208 then(bif wholeW b 14055734437023318016 4832362400168542208 then gd [okM b,okM a,finW b,finW a] (some ((partW a,partW b),())) else gd [finW b,finW a] (some ((0,0),()))) else gd [finW a] (some ((0,0),()))):=by kernel_rfl
theorem gmod_c:PC 322 gmodS:=(pureO (envS_ok (l:=[(254,wholeS),(371,partS)]) ⟨whole_c,part_c,trivial⟩) gl_ne Tryz.func322 (by kernel_rfl) (by decide)).nice fun⟨⟨a,b⟩,()⟩ h=>by
 have h:(okM a&&okM b)=true:=h;rw[Bool.and_eq_true] at h;obtain⟨n,h1,h2,rfl⟩:=okM_iff.1 h.1;obtain⟨m,h3,h4,rfl⟩:=okM_iff.1 h.2;have w1:wholeW (fN n) (fN (-1125899906842624)) (fN 1125899906842624)=true:=by
  rw[fwhole (by omega) (by decide) (by decide),decide_eq_true h1,decide_eq_true h2];rfl
 have w2:wholeW (fN m) (fN (-1125899906842624)) (fN 1125899906842624)=true:=by
  rw[fwhole (by omega) (by decide) (by decide),decide_eq_true h3,decide_eq_true h4];rfl
 show ogmod _=_;rw[egmod,c50,c50n,w1,xT,w2,xT,gdB h.2,gdB h.1,gdB (ftrunc (by omega)).2,gdB (ftrunc (by omega)).2,xG]
noncomputable def ogadd (x:DenL [.cx,.cx]):Option (DenL [.cx]):=fO Tryz.prog (envS [(174,mayS),(322,gmodS)]) (shOf []) Tryz.f255 [.cx,.cx] [.cx] x
theorem egadd (a b c d:Nat):ogadd ((a,b),(c,d),())=(bif mayW a b then(bif mayW c d then gd [okM (fA .add a c)&&okM (fA .add b d),fOk .add a c,fOk .add b d,finW c&&finW d,finW a&&finW b] (some ((partW (fA .add a c),partW (fA .add b d)),())) else gd [finW c&&finW d,finW a&&finW b] (some ((0,0),()))) else gd [finW a&&finW b] (some ((0,0),()))):=by kernel_rfl
noncomputable def ogmul (x:DenL [.cx,.cx]):Option (DenL [.cx]):=fO Tryz.prog (envS [(174,mayS),(322,gmodS)]) (shOf []) Tryz.f256 [.cx,.cx] [.cx] x
theorem egmul (a b c d:Nat):ogmul ((a,b),(c,d),())=(bif mayW a b then(bif mayW c d then gd [okM (fA .sub (fA .mul a c) (fA .mul b d))&&okM (fA .add (fA .mul a d) (fA .mul b c)),fOk .mul a c,fOk .mul b d,fOk .sub (fA .mul a c) (fA .mul b d),fOk .mul a d,fOk .mul b c,fOk .add (fA .mul a d) (fA .mul b c),finW c&&finW d,finW a&&finW b] (some ((partW (fA .sub (fA .mul a c) (fA .mul b d)),partW (fA .add (fA .mul a d) (fA .mul b c))),())) else gd [finW c&&finW d,finW a&&finW b] (some ((0,0),()))) else gd [finW a&&finW b] (some ((0,0),()))):=by kernel_rfl
theorem okC_iff {z:Nat×Nat} (h:okC z=true):∃a b:Int,(0≤a∧a≤65520)∧(0≤b∧b≤65520)∧z=(fN a,fN b):=by
 obtain⟨x,y⟩:=z;have h:(okF x&&okF y)=true:=h;rw[Bool.and_eq_true] at h;obtain⟨a,a1,a2,rfl⟩:=okF_iff.1 h.1;obtain⟨b,b1,b2,rfl⟩:=okF_iff.1 h.2;exact⟨a,b,⟨a1,a2⟩,⟨b1,b2⟩,rfl⟩
theorem gadd_c:PC 255 gaddS:=(pureO (envS_ok (l:=[(174,mayS),(322,gmodS)]) ⟨may_c,gmod_c,trivial⟩) gl_ne Tryz.func255 (by kernel_rfl) (by decide)).nice fun⟨z,u,()⟩ h=>by
 have h:(okC z&&okC u)=true:=h;rw[Bool.and_eq_true] at h;obtain⟨a,b,ha,hb,rfl⟩:=okC_iff h.1;obtain⟨c,d,hc,hd,rfl⟩:=okC_iff h.2;obtain⟨m1,m2⟩:=may_ok ha.1 ha.2 hb.1 hb.2;obtain⟨m3,m4⟩:=may_ok hc.1 hc.2 hd.1 hd.2;obtain⟨p1,p2⟩:=fAdd (a:=a) (b:=c) (by omega) (by omega) (by omega);obtain⟨p3,p4⟩:=fAdd (a:=b) (b:=d) (by omega) (by omega) (by omega)
 have o1:=okM_of (n:=a+c) (by omega) (by omega);have o2:=okM_of (n:=b+d) (by omega) (by omega);show ogadd _=some (cf (zaddN (un (fN a),un (fN b),()) (un (fN c),un (fN d),())),());rw[egadd,m2,xT,m4,xT,p2,p4,gdB (by rw[o1,o2];rfl),gdB p1,gdB p3,gdB m3,gdB m1,xG,un_fN (by omega),un_fN (by omega),un_fN (by omega),un_fN (by omega)]
 unfold partW;rw[un_fN (by omega),un_fN (by omega)];rfl
theorem gmul_c:PC 256 gmulS:=(pureO (envS_ok (l:=[(174,mayS),(322,gmodS)]) ⟨may_c,gmod_c,trivial⟩) gl_ne Tryz.func256 (by kernel_rfl) (by decide)).nice fun⟨z,u,()⟩ h=>by
 have h:(okC z&&okC u)=true:=h;rw[Bool.and_eq_true] at h;obtain⟨a,b,ha,hb,rfl⟩:=okC_iff h.1;obtain⟨c,d,hc,hd,rfl⟩:=okC_iff h.2;obtain⟨m1,m2⟩:=may_ok ha.1 ha.2 hb.1 hb.2;obtain⟨m3,m4⟩:=may_ok hc.1 hc.2 hd.1 hd.2;obtain⟨p1,p2⟩:=fMul (a:=a) (b:=c) (by omega) (by omega) (by omega) (by omega);obtain⟨p3,p4⟩:=fMul (a:=b) (b:=d) (by omega) (by omega) (by omega) (by omega)
 obtain⟨p5,p6⟩:=fMul (a:=a) (b:=d) (by omega) (by omega) (by omega) (by omega);obtain⟨p7,p8⟩:=fMul (a:=b) (b:=c) (by omega) (by omega) (by omega) (by omega);have q1:=mul_bd (a:=a) (b:=c) (by omega) (by omega) (by omega) (by omega);have q2:=mul_bd (a:=b) (b:=d) (by omega) (by omega) (by omega) (by omega)
 have q3:=mul_bd (a:=a) (b:=d) (by omega) (by omega) (by omega) (by omega);have q4:=mul_bd (a:=b) (b:=c) (by omega) (by omega) (by omega) (by omega);obtain⟨s1,s2⟩:=fSub (a:=a*c) (b:=b*d) (by omega) (by omega) (by omega) (by omega);obtain⟨s3,s4⟩:=fAdd (a:=a*d) (b:=b*c) (by omega) (by omega) (by omega)
 have o1:=okM_of (n:=a*c-b*d) (by omega) (by omega);have o2:=okM_of (n:=a*d+b*c) (by omega) (by omega);show ogmul _=some (cf (zmulN (un (fN a),un (fN b),()) (un (fN c),un (fN d),())),());rw[egmul,m2,xT,m4,xT,p2,p4,p6,p8,s2,s4,gdB (by rw[o1,o2];rfl),gdB p1,gdB p3,gdB s1,gdB p5,gdB p7,gdB s3,gdB m3,gdB m1,xG,un_fN (by omega),un_fN (by omega),un_fN (by omega),un_fN (by omega)]
 unfold partW;rw[un_fN (by omega),un_fN (by omega)];rfl
end Go.Proofs.YtikedhemjoljpaaGreatDoor
namespace Nice
open Go Go.Eng
def stepZ (z:ZW) (c:UInt8):ZW:=zaddN (zmulN z (3,5,())) ((c.toNat:Int)+1,0,())
def dig1 (n i:Int):Int:=IntKind.u8.wrap (IntKind.i64.wrap ((Nat.bitwise and (n.fdiv (2^min (4*i).toNat 64)%18446744073709551616).toNat 15:Nat):Int))
def chr1 (d:Int):UInt8:=bif decide (d<10) then UInt8.ofNat (IntKind.u8.wrap (48+d)).toNat else UInt8.ofNat (IntKind.u8.wrap (IntKind.u8.wrap (97+d)-10)).toNat
abbrev TO:=Option (DenL [.str])
noncomputable def stepH (n i:Int) (o:List UInt8) (nx:List UInt8→TO) (fin:TO):TO:=
 bif decide (i≥0) then gd [decide (0≤4*i),decide (inK .i64 (4*i))] (bif decide (dig1 n i<10) then
     gd [decide (inK .i64 (i-1)),decide ((2*(o.length+[UInt8.ofNat (IntKind.u8.wrap (48+dig1 n i)).toNat].length)+400)*1≤281474976710656),decide (inK .u8 (IntKind.u8.wrap (48+dig1 n i)))] (nx (o++[UInt8.ofNat (IntKind.u8.wrap (48+dig1 n i)).toNat]))
  else gd [decide (inK .i64 (i-1)),decide ((2*(o.length+[UInt8.ofNat (IntKind.u8.wrap (IntKind.u8.wrap (97+dig1 n i)-10)).toNat].length)+400)*1≤281474976710656),decide (inK .u8 (IntKind.u8.wrap (IntKind.u8.wrap (97+dig1 n i)-10)))] (nx (o++[UInt8.ofNat (IntKind.u8.wrap (IntKind.u8.wrap (97+dig1 n i)-10)).toNat])))
 else fin
end Nice
namespace Go.Proofs.YtikedhemjoljpaaGreatDoor
open Go Go.Eng Nice Go.RowKit
set_option maxRecDepth 1000000
abbrev shgon:List (Nat×List (Nat×Sh)):=[(4,[(0,(.one .sym)),(4,(.one .sym)),(10,(.one (.dat .byte))),(11,(.one .sym)),(12,(.one .sym))])]
noncomputable def hgon (k:Nat) (a b c d:Nat) (l:List UInt8) (m i:Int):Option (DenL [.cx]):=rH Tryz.prog (envS [(174,mayS),(255,gaddS),(256,gmulS)]) (shOf shgon) Tryz.f175 [.cx] k 0 [(0,sy (.complex .f64 a b)),(4,sy (.complex .f64 c d)),(10,dt 10),(11,sy (.int .i64 m)),(12,sy (.int .i64 i))] [.dat .byte l]
noncomputable def ogon (x:DenL [.cx,.slice .byte]):Option (DenL [.cx]):=fO Tryz.prog (envS [(174,mayS),(255,gaddS),(256,gmulS)]) (shOf shgon) Tryz.f175 [.cx,.slice .byte] [.cx] x
theorem egon_g (N:Nat) (a b:Nat) (l:List UInt8):fON Tryz.prog (envS [(174,mayS),(255,gaddS),(256,gmulS)]) (shOf shgon) Tryz.f175 [.cx,.slice .byte] [.cx] N ((a,b),l,())=
 (bif mayW a b then gd [finW a&&finW b] (hgon N a b 0 0 l (l.length:Int) 0) else gd [finW a&&finW b] (some ((0,0),()))):=by kernel_rfl
theorem ogon_g (x:DenL [.cx,.slice .byte]):ogon x=fON Tryz.prog (envS [(174,mayS),(255,gaddS),(256,gmulS)]) (shOf shgon) Tryz.f175 [.cx,.slice .byte] [.cx] heads0 x:=rfl
theorem egon_0 (k:Nat) (a b c d:Nat) (l:List UInt8) (m i:Int):hgon (k+1) a b c d l m i=
 (bif decide (i<m) then gd [decide (inK .i64 (i+1)),okC (cf (zmulN (cz (a,b)) (cz (4613937818241073152,4617315517961601024))))&&okC (fA .add (fN ((l.getD i.toNat Ty.byte.dflt).toNat:Int)) 4607182418800017408,0),fOk .add (fN ((l.getD i.toNat Ty.byte.dflt).toNat:Int)) 4607182418800017408,okC (a,b)&&okC (4613937818241073152,4617315517961601024),decide (i.toNat<l.length),decide (0≤i),decide (i<(l.length:Int))]
  (hgon k (cf (zaddN (cz (cf (zmulN (cz (a,b)) (cz (4613937818241073152,4617315517961601024))))) (cz (fA .add (fN ((l.getD i.toNat Ty.byte.dflt).toNat:Int)) 4607182418800017408,0)))).1 (cf (zaddN (cz (cf (zmulN (cz (a,b)) (cz (4613937818241073152,4617315517961601024))))) (cz (fA .add (fN ((l.getD i.toNat Ty.byte.dflt).toNat:Int)) 4607182418800017408,0)))).2 c d l m (i+1))
 else some ((a,b),())):=by kernel_rfl
theorem gon_l (c d:Nat) (l:List UInt8) (hl:l.length≤140737488355328):∀(r i k:Nat) (z:ZW),l.length=i+r→r<k→(0≤z.1∧z.1<65521)→(0≤z.2.1∧z.2.1<65521)→hgon k (cf z).1 (cf z).2 c d l (l.length:Int) (i:Int)=some (cf (onN z (l.drop i)),()):=by
 intro r
 induction r with
 |zero=>
  intro i k z hi hk h1 h2;obtain⟨k,rfl⟩:∃m,k=m+1:=⟨k-1,by omega⟩
  rw[egon_0,cdF (by omega),List.drop_eq_nil_of_le (by omega)];rfl
 |succ r ih=>
  intro i k z hi hk h1 h2;obtain⟨k,rfl⟩:∃m,k=m+1:=⟨k-1,by omega⟩
  have hlt:i<l.length:=by omega
  have hd:l.drop i=l.getD i Ty.byte.dflt::l.drop (i+1):=by
   rw[List.drop_eq_getElem_cons hlt,List.getD_eq_getElem?_getD,List.getElem?_eq_getElem hlt];rfl
  have hb:=(l.getD i Ty.byte.dflt).toNat_lt;obtain⟨g1,g2⟩:=zadd_m (zmulN z (3,5,())) (((l.getD i Ty.byte.dflt).toNat:Int)+1,0,());obtain⟨q1,q2⟩:=zmul_m z (3,5,());have key:=ih (i+1) k (stepZ z (l.getD i Ty.byte.dflt)) (by omega) (by omega) g1 g2;simp only[Int.natCast_add,Int.natCast_one] at key;obtain⟨p1,p2⟩:=fAdd (a:=((l.getD i Ty.byte.dflt).toNat:Int)) (b:=1) (by omega) (by omega) (by omega)
  have e1:cz ((cf z).1,(cf z).2)=z:=cz_cf h1 h2;have e2:cz (4613937818241073152,4617315517961601024)=(3,5,()):=by
   rw[c3,c5];exact cz_cf (z:=(3,5,())) (by decide) (by decide)
  have e3:cz (fN (((l.getD i Ty.byte.dflt).toNat:Int)+1),0)=(((l.getD i Ty.byte.dflt).toNat:Int)+1,0,()):=cz_cf (z:=(((l.getD i Ty.byte.dflt).toNat:Int)+1,0,())) ⟨by show(0:Int)≤_+1;omega,by show _+(1:Int)<_;omega⟩ ⟨Int.le_refl 0,(by decide:(0:Int)<65521)⟩;have o1:okC ((cf z).1,(cf z).2)=true:=okC_cf h1 h2
  have o2:okC (4613937818241073152,4617315517961601024)=true:=by
   rw[c3,c5];exact okC_cf (z:=(3,5,())) (by decide) (by decide)
  have o3:okC (fN (((l.getD i Ty.byte.dflt).toNat:Int)+1),0)=true:=okC_cf (z:=(((l.getD i Ty.byte.dflt).toNat:Int)+1,0,())) ⟨by show(0:Int)≤_+1;omega,by show _+(1:Int)<_;omega⟩ ⟨Int.le_refl 0,(by decide:(0:Int)<65521)⟩;have o4:=okC_cf q1 q2;rw[egon_0,cdT (by omega),show(i:Int).toNat=i from rfl];rw[←c1] at p1 p2
  rw[p2,e1,e2,e3,cz_cf q1 q2,gdT (inK_i64.2 ⟨by omega,by omega⟩),gdB (by rw[o4,o3];rfl),gdB p1,gdB (by rw[o1,o2];rfl),gdT hlt,gdT (by omega),gdT (by omega),xG,hd];exact key
theorem gon_c:PC 175 gonS:=(pureO (sh:=shOf shgon) (envS_ok (l:=[(174,mayS),(255,gaddS),(256,gmulS)]) ⟨may_c,gadd_c,gmul_c,trivial⟩) gl_ne Tryz.func175 (by kernel_rfl) (by decide)).nice fun⟨z,l,()⟩ h=>by
 have h:(okC z&&bndS l)=true:=h;rw[Bool.and_eq_true] at h;have hl:l.length≤140737488355328:=of_decide_eq_true h.2;obtain⟨a,b,ha,hb,rfl⟩:=okC_iff h.1;obtain⟨m1,m2⟩:=may_ok ha.1 ha.2 hb.1 hb.2;show ogon _=some (cf (onN (un (fN a),un (fN b),()) l),());rw[ogon_g,egon_g,m2,xT,gdB m1,xG,un_fN (by omega),un_fN (by omega)]
 exact gon_l 0 0 l hl l.length 0 heads0 (a,b,()) (by omega) (by unfold heads0;omega) ⟨ha.1,by show a<65521;omega⟩ ⟨hb.1,by show b<65521;omega⟩
noncomputable def ogmark (x:DenL [.slice .byte]):Option (DenL [.cx]):=fO Tryz.prog (envS [(175,gonS)]) (shOf []) Tryz.f111 [.slice .byte] [.cx] x
theorem egmark (l:List UInt8):ogmark (l,())=gd [okC (0,4607182418800017408)&&bndS l] (some (cf (onN (cz (0,4607182418800017408)) l),())):=by kernel_rfl
theorem gmark_c:PC 111 gmarkS:=(pureO (envS_ok (l:=[(175,gonS)]) ⟨gon_c,trivial⟩) gl_ne Tryz.func111 (by kernel_rfl) (by decide)).nice fun⟨l,()⟩ h=>by
 have h:bndS l=true:=h;have e:cz (0,4607182418800017408)=(0,1,()):=by
  rw[c1];exact cz_cf (z:=(0,1,())) (by decide) (by decide)
 have o:okC (0,4607182418800017408)=true:=by
  rw[c1];exact okC_cf (z:=(0,1,())) (by decide) (by decide)
 show ogmark _=some (cf (onN (0,1,()) l),());rw[egmark,e,gdB (by rw[o,h];rfl),xG]
abbrev shgt:List (Nat×List (Nat×Sh)):=[(9,[(2,(.one .sym)),(3,(.one (.vec .byte 5))),(6,(.one .sym)),(7,(.one .sym)),(16,(.agg [.sym,.sym])),(17,(.one .any))])]
noncomputable def hgt (k:Nat) (j:Int) (t o:List UInt8) (n i:Int) (a b:Nat):TO:=rH Tryz.prog (envS [(174,mayS)]) (shOf shgt) Tryz.f110 [.str] k 1 [(2,sy (.string (bs t))),(3,dt 10),(6,sy (.int .i64 n)),(7,sy (.int .i64 i)),(16,.agg #[sy (.float .f64 a),sy (.float .f64 b)]),(17,.int .i64 j)] [.vec .byte o 5]
noncomputable def ogt (x:DenL [.cx]):TO:=fO Tryz.prog (envS [(174,mayS)]) (shOf shgt) Tryz.f110 [.cx] [.str] x
theorem ogt_g (x:DenL [.cx]):ogt x=fON Tryz.prog (envS [(174,mayS)]) (shOf shgt) Tryz.f110 [.cx] [.str] heads0 x:=rfl
theorem egt_g (N:Nat) (a b:Nat):fON Tryz.prog (envS [(174,mayS)]) (shOf shgt) Tryz.f110 [.cx] [.str] N ((a,b),())=
 (bif mayW a b then gd [(fIv a .i64).isSome,finW a&&finW b] (hgt N 0 [] [] ((fIv a .i64).getD 0) 3 a b) else gd [finW a&&finW b] (some ([],()))):=by kernel_rfl
theorem egt_0 (k:Nat) (t o:List UInt8) (n i:Int) (a b:Nat):hgt (k+1) 0 t o n i a b=stepH n i o (fun o'=>hgt k 0 t o' n (i-1) a b) (gd [(fIv b .i64).isSome] (hgt k 1 t o ((fIv b .i64).getD 0) 3 a b)):=by kernel_rfl
theorem egt_1 (k:Nat) (t o:List UInt8) (n i:Int) (a b:Nat):hgt (k+1) 1 t o n i a b=stepH n i o (fun o'=>hgt k 1 t o' n (i-1) a b) (some (o,())):=by kernel_rfl
end Go.Proofs.YtikedhemjoljpaaGreatDoor
namespace Go.Proofs.YtikedhemjoljpaaGreatDoor
open Go Go.Eng Nice
set_option maxRecDepth 1000000
noncomputable def cus0:FuncId→List Value→St→Option (Value×St×Foot):=plainP (envS [(111,gmarkS)]) 111 gmarkS
end Go.Proofs.YtikedhemjoljpaaGreatDoor
namespace Go.Proofs.YtikedhemjoljpaaGreatDoor
open Go Go.Eng Go.RowKit Go.Shelf Go.Lib
set_option maxRecDepth 1000000
set_option maxHeartbeats 4000000
theorem isSome_setCells' (b:Nat) (vs:List Value) (o:Nat) (w:World) (h:∀j,j<vs.length→(w.cell? ⟨b,o+j,none⟩).isSome=true) (k:Nat) (hk:(w.cell? ⟨b,k,none⟩).isSome=true):((w.setCells b o vs).cell? ⟨b,k,none⟩).isSome=true:=by
 by_cases hin:o≤k∧k<o+vs.length
 ·have:=World.cell?_setCells_in b vs o w h (k-o) (by omega);rw[show o+(k-o)=k by omega] at this;rw[this];cases vs[k-o]? with
  |none=>rfl
  |some v=>rfl
 ·rw[World.cell?_setCells_out b vs o w ⟨b,k,none⟩ (fun _ _=>by show k<o∨o+vs.length≤k;omega)];exact hk
theorem delI (b off n c i j:Nat) (vs:List Value) (w:World) (hl:vs.length=n) (h1:∀v,v∈vs→v.oneCell'=true)
  (hc:∀k v,vs[k]?=some v→w.cell? ⟨b,off+k,none⟩=some v) (hf:∀k,k<n→w.frozen? ⟨b,off+k,none⟩=false) (hnc:n≤c) (hij:i<j) (hj:j≤n) (hn:n≤1099511627776):
  Calls Tryz.prog 131 #[.slice (some ⟨b,off,none⟩) n c,.int .i64 i,.int .i64 j] w fun e w'=>e=.returned (.slice (some ⟨b,off,none⟩) (n-(j-i)) c)∧
   ∃q,w'=((w.drewN q).setCells b (off+i) (vs.drop j)).setCells b (off+(i+(n-j))) (List.replicate (j-i) (.int .i64 0)):=by
 obtain⟨i0,hi0,hz0,hz1,hz2⟩:∃i0:TypeInfo,Tryz.prog.info? 3=some i0∧i0.zero=some (.int .i64 0)∧i0.size=1∧True:=⟨Tryz.t3,by kernel_rfl,by kernel_rfl,by kernel_rfl,trivial⟩
 have v3:∀w,(zeroValue 3).run Tryz.prog w=.ok (.int .i64 0) w:=Tryz.zeroValue3;have t22:Tryz.prog.underlying 48=some (.slice 3):=Tryz.underlying48;have hdl:(vs.drop j).length=n-j:=by rw[List.length_drop,hl]
 obtain⟨A,hA,hsrc⟩:∃A:Addr,(if c=j then some (⟨b,off,none⟩:Addr) else some ⟨b,off+j,none⟩)=some A∧∀k u,(vs.drop j)[k]?=some u→w.drew.cell? (A.add k)=some u:=by
  by_cases h:c=j
  ·refine⟨⟨b,off,none⟩,by simp[h],fun k u hu=> ?_⟩;have h0:(vs.drop j).length=0:=by rw[hdl];omega
   rw[List.length_eq_zero_iff.1 h0] at hu;cases hu
  ·refine⟨⟨b,off+j,none⟩,by simp[h],fun k u hu=> ?_⟩;rw[Addr.add_lit,Nat.add_assoc];exact hc (j+k) u (by rwa[List.getElem?_drop] at hu)
 have hsome:∀k,k<n→(w.cell? ⟨b,off+k,none⟩).isSome=true:=fun k hk=>by
  rw[hc k _ (List.getElem?_eq_getElem (by omega))];rfl
 obtain⟨W1,hW1⟩:∃W1,W1=w.drew.setCells b (off+i*1) (vs.drop j):=⟨_,rfl⟩
 have hcl:∀ty,(Builtin.clear_ #[48] ty #[.slice (some ⟨b,off+(i+(n-j)),none⟩) (n-(i+(n-j))) (c-(i+(n-j)))]).run Tryz.prog W1=.ok (.tuple #[]) (W1.setCells b (off+(i+(n-j))) (List.replicate (n-(i+(n-j))) (.int .i64 0))):=
  fun ty=>Lib.run_clear_slice W1 48 3 ty _ t22 v3 rfl rfl b (off+(i+(n-j))) _ _ (by omega) (fun k hk=>by
   rw[hW1,Nat.add_assoc];exact isSome_setCells' b _ _ _ (fun q hq=>by rw[Nat.mul_one,Nat.add_assoc];exact hsome _ (by omega)) _ (hsome _ (by omega))) (fun k hk=>by rw[hW1,World.frozen?_setCells,Nat.add_assoc];exact hf _ (by omega))
 have hsz1:Hid ((vs.drop j).length=(n-j)*1):=by rw[Nat.mul_one];exact hdl
 have hsz2:Hid (∀u∈vs.drop j,u.oneCell'=true):=fun u hu=>h1 u (List.mem_of_mem_drop hu)
 have hsz3:Hid (∀k,k<(vs.drop j).length→(w.drew.cell? ⟨b,off+i*1+k,none⟩).isSome=true∧w.drew.frozen? ⟨b,off+i*1+k,none⟩=false):=fun k hk=>by
  rw[hdl] at hk;rw[Nat.mul_one,Nat.add_assoc];exact⟨hsome _ (by omega),hf _ (by omega)⟩
 have hsrc:Hid (∀k u,(vs.drop j)[k]?=some u→w.drew.cell? (A.add k)=some u):=hsrc;have hW:Hid (W1=w.drew.setCells b (off+i*1) (vs.drop j)):=hW1;have mixed:Tryz.prog.follows .mixedOrders=true:=by kernel_rfl
 have hic:i≤c:=by omega
 have hjc:j≤c:=by omega
 have hin:i≤n:=by omega
 clear hW1 hc hf hsome h1 hl
 go_enter Tryz.func131,Tryz.ntmps131
 go_wp2_with fail
 go_region_law_o (refine step_append_room rfl (.tmp 22) (.tmp 25) 48 rfl 3 i0 1 t22 hi0 hz1 b off i c (by simp[Act.eval,Act.put]) A (n-j) (c-j) (vs.drop j) (by simp[Act.eval,Act.put]) hsz1.out hsrc.out hsz2.out (by omega) hsz3.out ?_;rw[←hW.out])
 go_wp2
 go_ret
 refine⟨by rw[show n-(j-i)=i+(n-j) by omega];rfl,1,?_⟩;rw[hW.out,show n-(i+(n-j))=j-i by omega,Nat.mul_one];rfl
theorem delS (b off n c i j:Nat) (vs:List Value) (w:World) (hl:vs.length=n) (h1:∀v,v∈vs→v.oneCell'=true)
  (hc:∀k v,vs[k]?=some v→w.cell? ⟨b,off+k,none⟩=some v) (hf:∀k,k<n→w.frozen? ⟨b,off+k,none⟩=false) (hnc:n≤c) (hij:i<j) (hj:j≤n) (hn:n≤1099511627776):
  Calls Tryz.prog 88 #[.slice (some ⟨b,off,none⟩) n c,.int .i64 i,.int .i64 j] w fun e w'=>e=.returned (.slice (some ⟨b,off,none⟩) (n-(j-i)) c)∧
   ∃q,w'=((w.drewN q).setCells b (off+i) (vs.drop j)).setCells b (off+(i+(n-j))) (List.replicate (j-i) (.string ⟨#[]⟩)):=by
 obtain⟨i0,hi0,hz0,hz1,hz2⟩:∃i0:TypeInfo,Tryz.prog.info? 9=some i0∧i0.zero=some (.string ⟨#[]⟩)∧i0.size=1∧True:=⟨Tryz.t9,by kernel_rfl,by kernel_rfl,by kernel_rfl,trivial⟩
 have v3:∀w,(zeroValue 9).run Tryz.prog w=.ok (.string ⟨#[]⟩) w:=Tryz.zeroValue9;have t22:Tryz.prog.underlying 87=some (.slice 9):=Tryz.underlying87;have hdl:(vs.drop j).length=n-j:=by rw[List.length_drop,hl]
 obtain⟨A,hA,hsrc⟩:∃A:Addr,(if c=j then some (⟨b,off,none⟩:Addr) else some ⟨b,off+j,none⟩)=some A∧∀k u,(vs.drop j)[k]?=some u→w.drew.cell? (A.add k)=some u:=by
  by_cases h:c=j
  ·refine⟨⟨b,off,none⟩,by simp[h],fun k u hu=> ?_⟩;have h0:(vs.drop j).length=0:=by rw[hdl];omega
   rw[List.length_eq_zero_iff.1 h0] at hu;cases hu
  ·refine⟨⟨b,off+j,none⟩,by simp[h],fun k u hu=> ?_⟩;rw[Addr.add_lit,Nat.add_assoc];exact hc (j+k) u (by rwa[List.getElem?_drop] at hu)
 have hsome:∀k,k<n→(w.cell? ⟨b,off+k,none⟩).isSome=true:=fun k hk=>by
  rw[hc k _ (List.getElem?_eq_getElem (by omega))];rfl
 obtain⟨W1,hW1⟩:∃W1,W1=w.drew.setCells b (off+i*1) (vs.drop j):=⟨_,rfl⟩
 have hcl:∀ty,(Builtin.clear_ #[87] ty #[.slice (some ⟨b,off+(i+(n-j)),none⟩) (n-(i+(n-j))) (c-(i+(n-j)))]).run Tryz.prog W1=.ok (.tuple #[]) (W1.setCells b (off+(i+(n-j))) (List.replicate (n-(i+(n-j))) (.string ⟨#[]⟩))):=
  fun ty=>Lib.run_clear_slice W1 87 9 ty _ t22 v3 rfl rfl b (off+(i+(n-j))) _ _ (by omega) (fun k hk=>by
   rw[hW1,Nat.add_assoc];exact isSome_setCells' b _ _ _ (fun q hq=>by rw[Nat.mul_one,Nat.add_assoc];exact hsome _ (by omega)) _ (hsome _ (by omega))) (fun k hk=>by rw[hW1,World.frozen?_setCells,Nat.add_assoc];exact hf _ (by omega))
 have hsz1:Hid ((vs.drop j).length=(n-j)*1):=by rw[Nat.mul_one];exact hdl
 have hsz2:Hid (∀u∈vs.drop j,u.oneCell'=true):=fun u hu=>h1 u (List.mem_of_mem_drop hu)
 have hsz3:Hid (∀k,k<(vs.drop j).length→(w.drew.cell? ⟨b,off+i*1+k,none⟩).isSome=true∧w.drew.frozen? ⟨b,off+i*1+k,none⟩=false):=fun k hk=>by
  rw[hdl] at hk;rw[Nat.mul_one,Nat.add_assoc];exact⟨hsome _ (by omega),hf _ (by omega)⟩
 have hsrc:Hid (∀k u,(vs.drop j)[k]?=some u→w.drew.cell? (A.add k)=some u):=hsrc;have hW:Hid (W1=w.drew.setCells b (off+i*1) (vs.drop j)):=hW1;have mixed:Tryz.prog.follows .mixedOrders=true:=by kernel_rfl
 have hic:i≤c:=by omega
 have hjc:j≤c:=by omega
 have hin:i≤n:=by omega
 clear hW1 hc hf hsome h1 hl
 go_enter Tryz.func88,Tryz.ntmps88
 go_wp2_with fail
 go_region_law_o (refine step_append_room rfl (.tmp 22) (.tmp 25) 87 rfl 9 i0 1 t22 hi0 hz1 b off i c (by simp[Act.eval,Act.put]) A (n-j) (c-j) (vs.drop j) (by simp[Act.eval,Act.put]) hsz1.out hsrc.out hsz2.out (by omega) hsz3.out ?_;rw[←hW.out])
 go_wp2
 go_ret
 refine⟨by rw[show n-(j-i)=i+(n-j) by omega];rfl,1,?_⟩;rw[hW.out,show n-(i+(n-j))=j-i by omega,Nat.mul_one];rfl
end Go.Proofs.YtikedhemjoljpaaGreatDoor
namespace Go.Eng
open Go
theorem setCells_eq (b:Nat) (e:TypeId) (fr:Nat×Nat):∀(vs:List Value) (o:Nat) (c:Array Value) (w:World),w.heap[b]?=some (.cells c e fr)→
  w.setCells b o vs={ w with heap:=w.heap.setIfInBounds b (.cells (setL c o vs) e fr)}
 |[],o,c,w,h=>by
  have:w.heap.setIfInBounds b (.cells c e fr)=w.heap:=by
   apply Array.ext_getElem?;intro j;rw[Array.getElem?_setIfInBounds]
   split
   ·rename_i hj;subst hj
    split
    ·exact h.symm
    ·rename_i hn;rw[Array.getElem?_eq_none (by omega)]
   ·rfl
  rw[setL,this];rfl
 |v::vs,o,c,w,h=>by
  have hb:=heap_lt h;have hset:w.setCell ⟨b,o,none⟩ v={ w with heap:=w.heap.setIfInBounds b (.cells (c.setIfInBounds o v) e fr)}:=by
   simp only[World.setCell];congr 1;apply Array.ext_getElem?;intro j;rw[Array.getElem?_modify,Array.getElem?_setIfInBounds]
   split
   ·rename_i hj;subst hj
    first|(rw[h];rfl)|simp[h,hb]
   ·rfl
  show(w.setCell ⟨b,o,none⟩ v).setCells b (o+1) vs=_;rw[hset,setCells_eq b e fr vs (o+1) (c.setIfInBounds o v) _ (by simp[hb])];simp only[setL,Array.setIfInBounds_setIfInBounds]
def oneK (z:Value) (v:Value):Bool:=
 match z,v with
 | .int .i64 _,.int .i64 _=>true
 | .string _,.string _=>true
 |_,_=>false
theorem oneK_spec {z v:Value} (h:oneK z v=true):plainN 8 v=true∧v.oneCell'=true:=by
 unfold oneK at h
 split at h<;>first|exact⟨rfl,rfl⟩|cases h
noncomputable def aDel (z:Value) (args:List Value) (σ:St):Option (Value×St×Foot):=
 match args with
 |[.slice (some ⟨b,off,none⟩) l cp,.int .i64 (.ofNat i),.int .i64 (.ofNat j)]=>match σ.heap.get b with
  |some (.row cs e false)=>bif Nat.blt i j&&(Nat.ble j l&&(Nat.ble (off+l) cs.length&&(Nat.ble l cp&&(Nat.ble l 1099511627776&&((cs.drop off).take l).all (oneK z))))) then
    some (.slice (some ⟨b,off,none⟩) (l-(j-i)) cp,σ.put b (some (.row (cs.take (off+i)++(((cs.drop off).take l).drop j++List.replicate (j-i) z)++cs.drop (off+l)) e false)),⟨[],[],(List.range l).map (fun k=>(b,off+k)),[]⟩)
   else none
  |_=>none
 |_=>none
theorem aDel_cus {P:Program} {E:Env} {f:FuncId} {z:Value} (hz:oneK z z=true)
  (hcall:∀(b off n c i j:Nat) (vs:List Value) (w:World),vs.length=n→(∀v,v∈vs→v.oneCell'=true)→(∀k v,vs[k]?=some v→w.cell? ⟨b,off+k,none⟩=some v)→(∀k,k<n→w.frozen? ⟨b,off+k,none⟩=false)→n≤c→i<j→j≤n→n≤1099511627776→
   Calls P f #[.slice (some ⟨b,off,none⟩) n c,.int .i64 i,.int .i64 j] w fun e w'=>e=.returned (.slice (some ⟨b,off,none⟩) (n-(j-i)) c)∧∃q,w'=((w.drewN q).setCells b (off+i) (vs.drop j)).setCells b (off+(i+(n-j))) (List.replicate (j-i) z))
  {args:List Value} {σ σ':St} {v:Value} {φ:Foot} (h:aDel z args σ=some (v,σ',φ)):CusOK P E f args σ v σ' φ:=by
 unfold aDel at h
 split at h
 case h_2=>cases h
 rename_i b off l cp i j
 split at h
 case h_2=>cases h
 rename_i cs e hg;cases hb:(Nat.blt i j&&(Nat.ble j l&&(Nat.ble (off+l) cs.length&&(Nat.ble l cp&&(Nat.ble l 1099511627776&&((cs.drop off).take l).all (oneK z))))))
 ·rw[hb] at h;cases h
 rw[hb,cond_true] at h;simp only[Bool.and_eq_true] at hb;obtain⟨b1,b2,b3,b4,b5,b6⟩:=hb;have b1:i<j:=by simpa using b1
 have b2:=Nat.le_of_ble_eq_true b2;have b3:=Nat.le_of_ble_eq_true b3;have b4:=Nat.le_of_ble_eq_true b4;have b5:=Nat.le_of_ble_eq_true b5;simp only[Option.some.injEq,Prod.mk.injEq] at h;obtain⟨rfl,rfl,rfl⟩:=h;generalize hvs:(cs.drop off).take l=vs at b6;have hvl:vs.length=l:=by rw[←hvs,List.length_take,List.length_drop];omega
 have hvk:∀k,k<l→vs[k]?=cs[off+k]?:=fun k hk=>by rw[←hvs,List.getElem?_take,if_pos hk,List.getElem?_drop]
 generalize hnew:cs.take (off+i)++(vs.drop j++List.replicate (j-i) z)++cs.drop (off+l)=new;have hml:(vs.drop j++List.replicate (j-i) z).length=l-i:=by rw[List.length_append,List.length_drop,List.length_replicate,hvl];omega
 have hnl:new.length=cs.length:=by
  rw[←hnew,List.length_append,List.length_append,hml,List.length_take,List.length_drop];omega
 have hn1:∀k,k<off+i→new[k]?=cs[k]?:=fun k hk=>by
  rw[←hnew,List.append_assoc,List.getElem?_append_left (by rw[List.length_take];omega),List.getElem?_take,if_pos hk]
 have hn2:∀k,k<l-i→new[off+i+k]?=(vs.drop j++List.replicate (j-i) z)[k]?:=fun k hk=>by
  have ht:(cs.take (off+i)).length=off+i:=by rw[List.length_take];omega
  rw[←hnew,List.append_assoc,List.getElem?_append_right (by omega),ht,List.getElem?_append_left (by rw[hml];omega)];congr 1;omega
 have hn3:∀k,off+l≤k→new[k]?=cs[k]?:=fun k hk=>by
  have ht:(cs.take (off+i)++(vs.drop j++List.replicate (j-i) z)).length=off+l:=by rw[List.length_append,hml,List.length_take];omega
  rw[←hnew,List.getElem?_append_right (by omega),ht,List.getElem?_drop];congr 1;omega
 have mem:∀k,(b,k)∈(List.range l).map (fun k=>(b,off+k))↔off≤k∧k<off+l:=fun k=>by
  rw[List.mem_map];constructor
  ·rintro⟨q,hq,he⟩;have:=List.mem_range.1 hq;cases he;omega
  ·intro hk;exact⟨k-off,List.mem_range.2 (by omega),by rw[show off+(k-off)=k by omega]⟩
 have hsame:∀k,(b,k)∉(List.range l).map (fun k=>(b,off+k))→new[k]?=cs[k]?:=fun k hk=>by
  have hk:¬(off≤k∧k<off+l):=fun h=>hk ((mem k).2 h)
  by_cases h1:k<off+i
  ·exact hn1 k h1
  ·exact hn3 k (by omega)
 refine⟨Nat.le_refl _,fun hw=>⟨St.put_wf hw (St.lv_lt hw (St.lv_of hg)) _,AFr.put hg hnl fun k hk=>hsame k hk⟩,fun _ D ι w args' hwf hGI hD hargs ho=> ?_⟩;have hlr:LR D ι _ args'.toList:=LR.of_AR (us:=args'.toList) (by simpa using hargs);obtain⟨s',u1,u2,hs,h1,h2,rfl⟩:∃s' u1 u2,VR D ι (.slice (some ⟨b,off,none⟩) l cp) s'∧VR D ι (.int .i64 i) u1∧VR D ι (.int .i64 j) u2∧args'=#[s',u1,u2]:=by
  generalize hus:args'.toList=us at hlr;cases hlr with
  |cons ha hr=>
   cases hr with
   |cons hb hr=>
    cases hr with
    |cons hc hr=>
     cases hr;exact⟨_,_,_,ha,hb,hc,Array.ext' hus⟩
 cases h1;cases h2;have hwb:∀k,k<l→(⟨[],[],(List.range l).map (fun k=>(b,off+k)),[]⟩:Foot).Fc b (off+k):=fun k hk=>.inr (.inr (.inl ((mem _).2 (by omega))))
 have hFi:(⟨[],[],(List.range l).map (fun k=>(b,off+k)),[]⟩:Foot).Fi b:=(hwb 0 (by omega)).fi;have hd:=ho.hd b _ hFi (St.hdr_of hg);obtain⟨c,e1,fr,hc,hr1,hr2,⟨hown,hnf⟩,hro⟩:=hd;obtain⟨rfl,he1,hfr⟩:=hro rfl;have hr2:cs.length≤(ι b).room:=hr2;obtain⟨c',hs',hlc,hv'⟩:∃c',s'=.slice (some ⟨(ι b).blk,(ι b).base+off,none⟩) l c'∧l≤c'∧VR D ι (.slice (some ⟨b,off,none⟩) (l-(j-i)) cp) (.slice (some ⟨(ι b).blk,(ι b).base+off,none⟩) (l-(j-i)) c'):=by
  cases hs with
  |slK _ _ _ _ hDb hne=>exact⟨_,rfl,b4,.slK _ _ _ _ hDb hne⟩
  |slU _ _ _ c' hDb h1 h2=>exact⟨_,rfl,h1,.slU _ _ _ _ hDb (by omega) h2⟩
 subst hs';have hcell:∀k v,vs[k]?=some v→w.cell? ⟨(ι b).blk,(ι b).base+off+k,none⟩=some v:=fun k v hv=>by
  have hk:k<l:=by
   rcases Nat.lt_or_ge k l with h|h
   ·exact h
   ·rw[List.getElem?_eq_none (by omega)] at hv;cases hv
  have hx:σ.H.cell b (off+k)=some v:=by rw[St.cell_of hg,←hvk k hk];exact hv
  obtain⟨-,v',g1,g2⟩:=ho.ceR b (off+k) v (hwb k hk) (St.hdr_of hg) hx;have:=plain_eq 8 v v' (oneK_spec (List.all_eq_true.1 b6 v (List.mem_of_getElem? hv))).1 g2;subst this;rw[Nat.add_assoc];exact g1
 have hfz:∀k,k<l→w.frozen? ⟨(ι b).blk,(ι b).base+off+k,none⟩=false:=fun k hk=>by
  have:=hfr ((ι b).base+off+k) (by omega);obtain⟨f1,f2⟩:=fr;simp only[World.frozen?,hc];simp only at this;simp only[Bool.and_eq_false_iff,decide_eq_false_iff_not];omega
 refine(hcall (ι b).blk ((ι b).base+off) l c' i j vs w hvl (fun v hv=>(oneK_spec (List.all_eq_true.1 b6 v hv)).2) hcell hfz hlc b1 b2 b5).mono ?_;rintro en w' ⟨rfl,q,rfl⟩;refine⟨_,ι,rfl,hv'.mono (fun _=>.inl) fun _ _=>rfl,?_⟩;have hq:(w.drewN q).heap[(ι b).blk]?=some (.cells c e1 fr):=hc;have hlt:=heap_lt hc
 have hw1:=setCells_eq (ι b).blk e1 fr (vs.drop j) ((ι b).base+off+i) c _ hq;rw[hw1,setCells_eq (ι b).blk e1 fr (List.replicate (j-i) z) ((ι b).base+off+(i+(l-j))) (setL c ((ι b).base+off+i) (vs.drop j)) _ (by simp[hlt])];have hdl:(vs.drop j).length=l-j:=by rw[List.length_drop,hvl]
 have hS1:(setL c ((ι b).base+off+i) (vs.drop j)).size=c.size:=setL_size _ _ _;have get:∀o,(setL (setL c ((ι b).base+off+i) (vs.drop j)) ((ι b).base+off+(i+(l-j))) (List.replicate (j-i) z))[o]?=
   if(ι b).base+off+i≤o∧o<(ι b).base+off+l then(vs.drop j++List.replicate (j-i) z)[o-((ι b).base+off+i)]? else c[o]?:=fun o=>by
  rw[setL_get _ _ _ _ (by rw[List.length_replicate,hS1];omega),setL_get _ _ _ _ (by rw[hdl];omega),List.length_replicate,hdl];by_cases g1:(ι b).base+off+(i+(l-j))≤o∧o<(ι b).base+off+(i+(l-j))+(j-i)
  ·rw[if_pos g1,if_pos (by omega),List.getElem?_append_right (by rw[hdl];omega),hdl];congr 1;omega
  ·rw[if_neg g1];by_cases g2:(ι b).base+off+i≤o∧o<(ι b).base+off+i+(l-j)
   ·rw[if_pos g2,if_pos (by omega),List.getElem?_append_left (by rw[hdl];omega)]
   ·rw[if_neg g2,if_neg (by omega)]
 refine Post.write (c:=c) (c':=setL (setL c ((ι b).base+off+i) (vs.drop j)) ((ι b).base+off+(i+(l-j))) (List.replicate (j-i) z)) hg ⟨c,e1,fr,hc,hr1,hr2,⟨hown,hnf⟩,fun _=>⟨rfl,he1,hfr⟩⟩ hc ?_ rfl rfl ?_ hnl ?_ ?_ ?_ ?_
 ·show(w.heap.setIfInBounds _ _).setIfInBounds _ _=_;rw[Array.setIfInBounds_setIfInBounds]
 ·rw[setL_size,setL_size]
 ·intro p hp;obtain⟨k,_,rfl⟩:=List.mem_map.1 hp;rfl
 ·intro o ho';rw[get,if_neg];intro hk;exact ho' (o-(ι b).base) ((mem _).2 (by omega)) (by omega)
 ·intro k v hk hv;have hk:=(mem k).1 hk;by_cases hki:off+i≤k
  ·rw[show k=off+i+(k-(off+i)) by omega,hn2 _ (by omega)] at hv;refine⟨v,?_,?_⟩
   ·rw[get,if_pos (by omega),show(ι b).base+k-((ι b).base+off+i)=k-(off+i) by omega];exact hv
   ·refine plain_refl 8 v ?_;rcases List.mem_append.1 (List.mem_of_getElem? hv) with hm|hm
    ·exact(oneK_spec (List.all_eq_true.1 b6 v (List.mem_of_mem_drop hm))).1
    ·rw[List.eq_of_mem_replicate hm];exact(oneK_spec hz).1
  ·rw[hn1 k (by omega)] at hv;have hkv:vs[k-off]?=some v:=by rw[hvk _ (by omega),show off+(k-off)=k by omega];exact hv
   have:=hcell _ v hkv;refine⟨v,?_,plain_refl 8 v (oneK_spec (List.all_eq_true.1 b6 v (List.mem_of_getElem? hkv))).1⟩;rw[get,if_neg (by omega)];simp only[World.cell?,hc,Option.isSome_none,Bool.false_eq_true,if_false] at this;rw[show(ι b).base+off+(k-off)=(ι b).base+k by omega] at this;exact this
 ·exact hsame
end Go.Eng
namespace Go.Proofs.YtikedhemjoljpaaGreatDoor
open Go
set_option maxRecDepth 100000
theorem goes_none {P:Program} (h:P.funcs.toList.all (fun f=> !f.goes)=true) (c:OpenClaim):false=c.goesBy P:=by
 have one:∀g:Nat,((P.funcs[g]?).any Func.goes)=false:=fun g=>by
  cases hg:P.funcs[g]? with
  |none=>rfl
  |some x=>
   have:=List.all_eq_true.1 h x (by rw[←Array.getElem?_toList] at hg;exact List.mem_of_getElem? hg);simpa using this
 have all:P.funcs.any Func.goes=false:=by
  rw[←Array.any_toList];cases hb:P.funcs.toList.any Func.goes
  ·rfl
  ·obtain⟨x,hx,hg⟩:=List.any_eq_true.1 hb;have:=List.all_eq_true.1 h x hx;rw[hg] at this;cases this
 have f:∀f:FuncId,P.goes f=false:=fun f=>by
  unfold Program.goes;rw[all,Bool.and_false,Bool.or_false];cases hb:(P.closure f).any fun g=>(P.funcs[g]?).any Func.goes
  ·rfl
  ·obtain⟨x,hx,hg⟩:=List.any_eq_true.1 hb;rw[one x] at hg;cases hg
 have hn:∀s:String,P.goesFrom s=false:=fun s=>by
  unfold Program.goesFrom;cases P.funcNamed s with
  |none=>rfl
  |some g=>exact f g
 have hi:P.inits.toList.any P.goes=false:=by
  cases hb:P.inits.toList.any P.goes
  ·rfl
  ·obtain⟨x,hx,hg⟩:=List.any_eq_true.1 hb;rw[f x] at hg;cases hg
 unfold OpenClaim.goesBy Program.goesAt;rw[hn,hi];cases c.start<;>rfl
theorem none_all:Tryz.pinned.checked.prog.funcs.toList.all (fun f=> !f.goes)=true:=by kernel_rfl
end Go.Proofs.YtikedhemjoljpaaGreatDoor
