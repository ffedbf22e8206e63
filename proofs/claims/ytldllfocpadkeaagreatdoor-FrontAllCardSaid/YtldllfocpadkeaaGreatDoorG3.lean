/-
  Part of the proof. No condition.
-/
import Derived.Test.YtldllfocpadkeaaGreatDoorG2
noncomputable section
namespace Nice
open Go Go.Eng
def finW (x:Nat):Bool:=match FloatKind.f64.decode x with
 | .nan _ _=>false
 |_=>true
def truncW (x:Nat):Nat:=FloatKind.f64.encode ((FloatKind.f64.decode x).integral .zero)
def wholeW (x a b:Nat):Bool:=fRel .geq .f64 x a&&(fRel .leq .f64 x b&&fRel .eql .f64 x (truncW x))
theorem log_le {n k:Nat} (h1:1<=n) (h2:n<2^(k+1)):n.log2<=k:=by
 have:=(Nat.log2_lt (by omega:n≠0)).2 h2;omega
theorem cut_zero (way:Ieee.Toward) (n:Nat):way.cut false n 0=n:=by
 unfold Ieee.Toward.cut;have e:(1<<<min 0 (n.log2+2):Nat)=1:=by rw[Nat.zero_min];rfl
 simp only[e,Nat.div_one,Nat.mod_one,Nat.mul_zero];cases way<;>simp
theorem word_false (f:Ieee.Format) (x:Nat):f.word false x=x:=rfl
theorem nearest_pos {n:Nat} (h1:1<=n) (h2:n<2^53):FloatKind.f64.nearest (n:Int)=(n.log2+1022)*2^52+n*2^(52-n.log2):=by
 have hL:=log_le h1 h2;have hlo:=Nat.log2_self_le (by omega:n≠0);have hhi:=(Nat.log2_lt (by omega:n≠0)).1 (Nat.lt_succ_self n.log2);have e0:decide ((n:Int)<0)=false:=by rw[decide_eq_false_iff_not];omega
 show Ieee.Format.nearest Ieee.double (decide ((n:Int)<0)) (n:Int).natAbs 0=_;rw[e0,Int.natAbs_natCast];unfold Ieee.Format.nearest;rw[if_neg (by omega)];have hlp:Ieee.double.leastPlace= -1074:=by decide
 have hmax:max ((0:Int)+n.log2-(Ieee.double.fractionBits:Nat)) Ieee.double.leastPlace=(n.log2:Int)-52:=by
  rw[hlp];show max ((0:Int)+n.log2-52) (-1074)=_;omega
 simp only[hmax];rw[hlp];have e1:((n.log2:Int)-52-0).toNat=0:=by omega
 have e2:((0:Int)-((n.log2:Int)-52)).toNat=52-n.log2:=by omega
 have e3:((n.log2:Int)-52- -1074).toNat=n.log2+1022:=by omega
 rw[e1,e2,e3,cut_zero,Nat.shiftLeft_eq];have hb:Ieee.double.binade=2^52:=rfl;have hi:Ieee.double.infRung=2047*2^52:=by decide
 rw[hb,hi];have hk:n*2^(52-n.log2)<2^53:=by
  calc n*2^(52-n.log2)<2^(n.log2+1)*2^(52-n.log2):=Nat.mul_lt_mul_of_pos_right hhi (Nat.two_pow_pos _)
   _=2^53:=by rw[<-Nat.pow_add];congr 1;omega
 rw[word_false];apply Nat.min_eq_left;omega
theorem decode_nearest {n:Nat} (h1:1<=n) (h2:n<2^53):FloatKind.f64.decode (FloatKind.f64.nearest (n:Int))=.number false (n*2^(52-n.log2)) ((n.log2:Int)-52):=by
 have hL:=log_le h1 h2;have hlo:=Nat.log2_self_le (by omega:n≠0);have hhi:=(Nat.log2_lt (by omega:n≠0)).1 (Nat.lt_succ_self n.log2);rw[nearest_pos h1 h2];have hk:n*2^(52-n.log2)<2^53:=by
  calc n*2^(52-n.log2)<2^(n.log2+1)*2^(52-n.log2):=Nat.mul_lt_mul_of_pos_right hhi (Nat.two_pow_pos _)
   _=2^53:=by rw[<-Nat.pow_add];congr 1;omega
 have hg:2^52<=n*2^(52-n.log2):=by
  calc 2^52=2^n.log2*2^(52-n.log2):=by rw[<-Nat.pow_add];congr 1;omega
   _<=n*2^(52-n.log2):=Nat.mul_le_mul_right _ hlo
 generalize n*2^(52-n.log2)=m at hk hg⊢;have hs:Ieee.double.signWeight=2^63:=rfl;have hb:Ieee.double.binade=2^52:=rfl;have hi:Ieee.double.infRung=2047*2^52:=by decide
 have hlp:Ieee.double.leastPlace= -1074:=by decide
 show Ieee.Format.read Ieee.double ((n.log2+1022)*2^52+m)=_;unfold Ieee.Format.read;simp only[hs,hb,hi,hlp];have q1:((n.log2+1022)*2^52+m)/2^63%2=0:=by omega
 have q2:((n.log2+1022)*2^52+m)%2^63=(n.log2+1022)*2^52+m:=by omega
 rw[q1,q2,if_neg (by omega),if_pos (by omega)];have q3:2^52+((n.log2+1022)*2^52+m)%2^52=m:=by omega
 have q4:((n.log2+1022)*2^52+m)/2^52-1=n.log2+1022:=by omega
 rw[q3,q4];have q5:(-1074:Int)+((n.log2+1022:Nat):Int)=(n.log2:Int)-52:=by omega
 rw[q5];rfl
theorem trunc_nearest {n:Nat} (h1:1<=n) (h2:n<2^53):truncW (FloatKind.f64.nearest (n:Int))=FloatKind.f64.nearest (n:Int):=by
 have hL:=log_le h1 h2;unfold truncW;rw[decode_nearest h1 h2];unfold Ieee.Datum.integral Ieee.Toward.cut;have e1:((n.log2:Int)-52).toNat=0:=by omega
 have e2:(-((n.log2:Int)-52)).toNat=52-n.log2:=by omega
 simp only[e1,e2,Nat.shiftLeft_zero,Bool.toNat_false,Nat.add_zero];have hg:(1<<<min (52-n.log2) ((n*2^(52-n.log2)).log2+2):Nat)=2^(52-n.log2):=by
  rw[Nat.shiftLeft_eq,Nat.one_mul,Nat.min_eq_left];have:2^(52-n.log2)<=n*2^(52-n.log2):=Nat.le_mul_of_pos_left _ h1;have:=(Nat.le_log2 (Nat.ne_of_gt (Nat.lt_of_lt_of_le (Nat.two_pow_pos _) this))).2 this;omega
 rw[hg,Nat.mul_div_cancel _ (Nat.two_pow_pos _)];have e0:decide ((n:Int)<0)=false:=by rw[decide_eq_false_iff_not];omega
 show _=Ieee.Format.nearest Ieee.double (decide ((n:Int)<0)) (n:Int).natAbs 0;rw[e0,Int.natAbs_natCast];rfl
theorem order_self (s:Bool) (m:Nat) (i:Int):Ieee.Datum.order (.number s m i) (.number s m i)=some .eq:=by
 unfold Ieee.Datum.order;simp
theorem whole_n {n:Nat} (h:n<65536):finW (FloatKind.f64.nearest (n:Int))=true/\wholeW (FloatKind.f64.nearest (n:Int)) 0 4679237813814689792=decide (n<65521):=by
 rcases Nat.eq_zero_or_pos n with rfl|h1
 ·decide
 have h2:n<2^53:=by omega
 have hd:=decode_nearest h1 h2;have hL:n.log2<=15:=log_le h1 (by omega);refine⟨by unfold finW;rw[hd],?_⟩;have hz:FloatKind.f64.decode 0=.number false 0 (-1074):=by decide
 have hw:FloatKind.f64.decode 4679237813814689792=.number false (65520*2^37) (-37):=by decide
 have o1:FloatKind.f64.format.order (FloatKind.f64.nearest (n:Int)) 0=some .gt:=by
  show Ieee.Datum.order (FloatKind.f64.decode (FloatKind.f64.nearest (n:Int))) (FloatKind.f64.decode 0)=_;rw[hd,hz];unfold Ieee.Datum.order Ieee.signed;have hm:min ((n.log2:Int)-52) (-1074)= -1074:=by omega
  simp only[hm,Bool.false_eq_true,if_false,Nat.shiftLeft_eq,Nat.zero_mul];congr 1;rw[Int.compare_eq_gt];have:0<n*2^(52-n.log2)*2^((n.log2:Int)-52- -1074).toNat:=Nat.mul_pos (Nat.mul_pos h1 (Nat.two_pow_pos _)) (Nat.two_pow_pos _);omega
 have o2:FloatKind.f64.format.order (FloatKind.f64.nearest (n:Int)) 4679237813814689792=some (compare n 65520):=by
  show Ieee.Datum.order (FloatKind.f64.decode (FloatKind.f64.nearest (n:Int))) (FloatKind.f64.decode 4679237813814689792)=_;rw[hd,hw];unfold Ieee.Datum.order Ieee.signed;have hm:min ((n.log2:Int)-52) (-37)=(n.log2:Int)-52:=by omega
  have e1:((n.log2:Int)-52-((n.log2:Int)-52)).toNat=0:=by omega
  have e2:((-37:Int)-((n.log2:Int)-52)).toNat=15-n.log2:=by omega
  simp only[hm,e1,e2,Bool.false_eq_true,if_false,Nat.shiftLeft_eq,Nat.pow_zero,Nat.mul_one];have e3:65520*2^37*2^(15-n.log2)=65520*2^(52-n.log2):=by
   rw[Nat.mul_assoc,<-Nat.pow_add];congr 2;omega
  rw[e3];congr 1;have hp:=Nat.two_pow_pos (52-n.log2);generalize 2^(52-n.log2)=q at hp;rcases Nat.lt_trichotomy n 65520 with hlt|heq|hgt
  ·rw[Nat.compare_eq_lt.2 hlt,Int.compare_eq_lt];exact Int.ofNat_lt.2 (Nat.mul_lt_mul_of_pos_right hlt hp)
  ·rw[Nat.compare_eq_eq.2 heq,Int.compare_eq_eq,heq]
  ·rw[Nat.compare_eq_gt.2 hgt,Int.compare_eq_gt];exact Int.ofNat_lt.2 (Nat.mul_lt_mul_of_pos_right hgt hp)
 have o3:FloatKind.f64.format.order (FloatKind.f64.nearest (n:Int)) (FloatKind.f64.nearest (n:Int))=some .eq:=by
  show Ieee.Datum.order (FloatKind.f64.decode (FloatKind.f64.nearest (n:Int))) (FloatKind.f64.decode (FloatKind.f64.nearest (n:Int)))=_;rw[hd,order_self]
 unfold wholeW fRel;simp only[trunc_nearest h1 h2,o1,o2,o3];rcases Nat.lt_trichotomy n 65520 with hlt|heq|hgt
 ·rw[Nat.compare_eq_lt.2 hlt,decide_eq_true (by omega:n<65521)];rfl
 ·rw[Nat.compare_eq_eq.2 heq,decide_eq_true (by omega:n<65521)];rfl
 ·rw[Nat.compare_eq_gt.2 hgt,decide_eq_false (by omega:¬n<65521)];rfl
open Go Go.Eng
def isHx (c:UInt8):Bool:=decide (48<=c.toNat/\c.toNat<=57\/97<=c.toNat/\c.toNat<=102)
def hx (c:UInt8):Int:=bif decide (c.toNat<=57) then(c.toNat:Int)-48 else(c.toNat:Int)-87
def rdF:L8->Nat->Int->Int->Option (Int×Int)
 |[],_,a,b=>some (a,b)
 |c::r,i,a,b=>bif isHx c then(bif decide (i<4) then rdF r (i+1) (a*16+hx c) b else rdF r (i+1) a (b*16+hx c)) else none
def rdZ (s:L8):Option (Int×Int):=bif decide (s.length=8) then(match rdF s 0 0 0 with
 |some z=>bif decide (z.1<65521)&&decide (z.2<65521) then some z else none
 |none=>none) else none
def gRead (s:L8):(Nat×Nat)×Bool:=match rdZ s with
 |some z=>((FloatKind.f64.nearest z.1,FloatKind.f64.nearest z.2),true)
 |none=>((0,0),false)
def rRead (s:L8):(Int×Int×Unit)×Bool:=match rdZ s with
 |some z=>((z.1,z.2,()),true)
 |none=>((0,0,()),false)
def mayW (a b:Nat):Bool:=wholeW a 0 4679237813814689792&&wholeW b 0 4679237813814689792
abbrev ZT:Ty:=.pair (.int .i64) (.pair (.int .i64) .unit)
def archS:PSpec:=⟨[.f64],[.f64],λx=>finW x.1,λx=>(truncW x.1,())⟩
def wholeS:PSpec:=⟨[.f64,.f64,.f64],[.bool],λx=>finW x.1,λx=>(wholeW x.1 x.2.1 x.2.2.1,())⟩
def mayS:PSpec:=⟨[.cx],[.bool],λx=>finW x.1.1&&finW x.1.2,λx=>(mayW x.1.1 x.1.2,())⟩
def gReadS:PSpec:=⟨[.str],[.cx,.bool],λ_=>true,λx=>((gRead x.1).1,(gRead x.1).2,())⟩
def rReadS:PSpec:=⟨[.str],[ZT,.bool],λ_=>true,λx=>((rRead x.1).1,(rRead x.1).2,())⟩
end Nice
namespace Go.Proofs.YtldllfocpadkeaaGreatDoor
open Go Go.Eng Nice
set_option maxRecDepth 1000000
abbrev shwhole:List (Nat×List (Nat×Sh)):=[]
def owhole (x:DenL [.f64,.f64,.f64]):Option (DenL [.bool]):=fO Tryz.prog (envS [(318,archS)]) (shOf shwhole) Tryz.f269 [.f64,.f64,.f64] [.bool] x
theorem ewhole_g (N x0 x1 x2:Nat):fON Tryz.prog (envS [(318,archS)]) (shOf shwhole) Tryz.f269 [.f64,.f64,.f64] [.bool] N (x0,x1,x2,())=
 (bif fRel BinOp.geq FloatKind.f64 x0 x1 then
  (bif fRel BinOp.leq FloatKind.f64 x0 x2 then
   (bif fRel BinOp.eql FloatKind.f64 x0 (truncW x0) then
    (gd [finW x0] (some (true,())))
   else
    (gd [finW x0] (some (false,()))))
  else
   (some (false,())))
 else
  (some (false,()))):=by kernel_rfl
theorem owhole_g (x:DenL [.f64,.f64,.f64]):owhole x=fON Tryz.prog (envS [(318,archS)]) (shOf shwhole) Tryz.f269 [.f64,.f64,.f64] [.bool] heads0 x:=rfl
abbrev shgmay:List (Nat×List (Nat×Sh)):=[]
def ogmay (x:DenL [.cx]):Option (DenL [.bool]):=fO Tryz.prog (envS [(269,wholeS)]) (shOf shgmay) Tryz.f201 [.cx] [.bool] x
theorem egmay_g (N:Nat) (x0:Nat×Nat):fON Tryz.prog (envS [(269,wholeS)]) (shOf shgmay) Tryz.f201 [.cx] [.bool] N (x0,())=
 (bif wholeW x0.fst 0 4679237813814689792 then
  (bif wholeW x0.snd 0 4679237813814689792 then
   (gd [finW x0.snd,finW x0.fst] (some (true,())))
  else
   (gd [finW x0.snd,finW x0.fst] (some (false,()))))
 else
  (gd [finW x0.fst] (some (false,())))):=by kernel_rfl
theorem ogmay_g (x:DenL [.cx]):ogmay x=fON Tryz.prog (envS [(269,wholeS)]) (shOf shgmay) Tryz.f201 [.cx] [.bool] heads0 x:=rfl
abbrev shgread:List (Nat×List (Nat×Sh)):=[(5,[(0,(.one .sym)),(2,(.one .any)),(3,(.one .sym)),(4,(.obj [.sym,.sym])),(12,(.one .sym)),(13,(.one .sym))])]
def hgread_0 (n:Nat) (t0:L8) (t3:Bool) (t4_0 t4_1 t12 t13:Int):Option (DenL [.cx,.bool]):=rH Tryz.prog (envS [(201,mayS)]) (shOf shgread) Tryz.f193 [.cx,.bool] n 0 [(0,sy (.string (bs t0))),(2,Value.complex FloatKind.f64 0 0),(3,.bool t3),(4,.pointer (some ⟨10,0,none⟩)),(12,sy (.int .i64 t12)),(13,sy (.int .i64 t13))] [.row [sy (.int .i64 t4_0),sy (.int .i64 t4_1)] 305 false]
def ogread (x:DenL [.str]):Option (DenL [.cx,.bool]):=fO Tryz.prog (envS [(201,mayS)]) (shOf shgread) Tryz.f193 [.str] [.cx,.bool] x
theorem egread_g (N:Nat) (x0:L8):fON Tryz.prog (envS [(201,mayS)]) (shOf shgread) Tryz.f193 [.str] [.cx,.bool] N (x0,())=
 (bif (↑x0.length:Int) !=(8:Int) then
  (some ((0,0),false,()))
 else
  (hgread_0 N (x0) (false) ((0:Int)) ((0:Int)) ((↑x0.length:Int)) ((0:Int)))):=by kernel_rfl
theorem ogread_g (x:DenL [.str]):ogread x=fON Tryz.prog (envS [(201,mayS)]) (shOf shgread) Tryz.f193 [.str] [.cx,.bool] heads0 x:=rfl
theorem egread_0 (n:Nat) (t0:L8) (t3:Bool) (t4_0 t4_1 t12 t13:Int) {Qb}[Qb':QA (↑(t0.getD t13.toNat 0).toNat:Int) Qb] {Qc}[Qc':QA (t13.tdiv ((4:Int))) Qc] {Qd}[Qd':QA (hgread_0 n t0 t3) Qd] {Qg}[Qg':QA (t4_0*(16:Int)+(Qb-87)) Qg] {Qh}[Qh':QA (t4_1*(16:Int)+(Qb-87)) Qh] {Qk}[Qk':QA (some ((0,0),false,())) Qk] {Ql}[Ql':QA (t4_0*(16:Int)) Ql] {Qm}[Qm':QA (t4_1*(16:Int)) Qm] {Qa}[Qa':QA (bif decide (Qb>=97) then (bif decide (Qb<=102) then (gd [decide (inK .i64 (Qb-87))] (bif t13.tdiv ((4:Int))==0 then (bif t13.tdiv ((4:Int))==0 then (gd [decide (inK .i64 (t13+1)),decide (inK .i64 Qg),decide (inK .i64 Ql),decide (inK .i64 Qc),decide (inK .i64 Qc)] (Qd Qg t4_1 t12 (t13+1))) else (gd [decide (inK .i64 (t13+1)),decide (inK .i64 Qg),decide (inK .i64 Ql),decide (inK .i64 Qc),decide (inK .i64 Qc),t13.tdiv ((4:Int))==1] (Qd t4_0 Qg t12 (t13+1)))) else (gd [t13.tdiv ((4:Int))==1] (bif t13.tdiv ((4:Int))==0 then (gd [decide (inK .i64 (t13+1)),decide (inK .i64 Qh),decide (inK .i64 Qm),decide (inK .i64 Qc),decide (inK .i64 Qc)] (Qd Qh t4_1 t12 (t13+1))) else (gd [decide (inK .i64 (t13+1)),decide (inK .i64 Qh),decide (inK .i64 Qm),decide (inK .i64 Qc),decide (inK .i64 Qc),t13.tdiv ((4:Int))==1] (Qd t4_0 Qh t12 (t13+1))))))) else Qk) else Qk) Qa] {Qe}[Qe':QA (t4_0*(16:Int)+(Qb-48)) Qe] {Qf}[Qf':QA (t4_1*(16:Int)+(Qb-48)) Qf] {Qi}[Qi':QA (FloatKind.f64.nearest t4_0) Qi] {Qj}[Qj':QA (FloatKind.f64.nearest t4_1) Qj]:hgread_0 (n+1) t0 t3 t4_0 t4_1 t12 t13= (bif decide (t13<t12) then (gd [decide (inK .i64 Qb),decide (0<=t13),decide (t13<t0.length)] (bif decide (Qb>=48) then (bif decide (Qb<=57) then (gd [decide (inK .i64 (Qb-48))] (bif t13.tdiv ((4:Int))==0 then (bif t13.tdiv ((4:Int))==0 then (gd [decide (inK .i64 (t13+1)),decide (inK .i64 Qe),decide (inK .i64 Ql),decide (inK .i64 Qc),decide (inK .i64 Qc)] (Qd Qe t4_1 t12 (t13+1))) else (gd [decide (inK .i64 (t13+1)),decide (inK .i64 Qe),decide (inK .i64 Ql),decide (inK .i64 Qc),decide (inK .i64 Qc),t13.tdiv ((4:Int))==1] (Qd t4_0 Qe t12 (t13+1)))) else (gd [t13.tdiv ((4:Int))==1] (bif t13.tdiv ((4:Int))==0 then (gd [decide (inK .i64 (t13+1)),decide (inK .i64 Qf),decide (inK .i64 Qm),decide (inK .i64 Qc),decide (inK .i64 Qc)] (Qd Qf t4_1 t12 (t13+1))) else (gd [decide (inK .i64 (t13+1)),decide (inK .i64 Qf),decide (inK .i64 Qm),decide (inK .i64 Qc),decide (inK .i64 Qc),t13.tdiv ((4:Int))==1] (Qd t4_0 Qf t12 (t13+1))))))) else Qa) else Qa)) else (bif mayW Qi Qj then (gd [finW Qi&&finW Qj] (some ((FloatKind.f64.nearest t4_0,FloatKind.f64.nearest t4_1),true,()))) else (gd [finW Qi&&finW Qj] Qk))):=by obtain ⟨rfl⟩:=Qj';obtain ⟨rfl⟩:=Qi';obtain ⟨rfl⟩:=Qf';obtain ⟨rfl⟩:=Qe';obtain ⟨rfl⟩:=Qa';obtain ⟨rfl⟩:=Qm';obtain ⟨rfl⟩:=Ql';obtain ⟨rfl⟩:=Qk';obtain ⟨rfl⟩:=Qh';obtain ⟨rfl⟩:=Qg';obtain ⟨rfl⟩:=Qd';obtain ⟨rfl⟩:=Qc';obtain ⟨rfl⟩:=Qb';kernel_rfl
abbrev shrread:List (Nat×List (Nat×Sh)):=[(5,[(0,(.one .sym)),(2,(.obj [.sym,.sym])),(3,(.one .sym)),(4,(.obj [.sym,.sym])),(5,(.one .sym))])]
def hrread_0 (n:Nat) (t0:L8) (t2_0 t2_1:Int) (t3:Bool) (t4_0 t4_1 t5:Int):Option (DenL [ZT,.bool]):=rH Tryz.prog (envS []) (shOf shrread) Tryz.f87 [ZT,.bool] n 0 [(0,sy (.string (bs t0))),(2,.pointer (some ⟨10,0,none⟩)),(3,.bool t3),(4,.pointer (some ⟨11,0,none⟩)),(5,sy (.int .i64 t5))] [.row [sy (.int .i64 t2_0),sy (.int .i64 t2_1)] 132 false,.row [sy (.int .i64 t4_0),sy (.int .i64 t4_1)] 170 false]
def orread (x:DenL [.str]):Option (DenL [ZT,.bool]):=fO Tryz.prog (envS []) (shOf shrread) Tryz.f87 [.str] [ZT,.bool] x
theorem erread_g (N:Nat) (x0:L8):fON Tryz.prog (envS []) (shOf shrread) Tryz.f87 [.str] [ZT,.bool] N (x0,())=
 (bif (↑x0.length:Int) !=(8:Int) then
  (some (((0:Int),(0:Int),()),false,()))
 else
  (hrread_0 N (x0) ((0:Int)) ((0:Int)) (false) ((0:Int)) ((0:Int)) ((0:Int)))):=by kernel_rfl
theorem orread_g (x:DenL [.str]):orread x=fON Tryz.prog (envS []) (shOf shrread) Tryz.f87 [.str] [ZT,.bool] heads0 x:=rfl
theorem erread_0 (n:Nat) (t0:L8) (t2_0 t2_1:Int) (t3:Bool) (t4_0 t4_1 t5:Int) {Qb}[Qb':QA (↑(t0.getD t5.toNat 0).toNat:Int) Qb] {Qc}[Qc':QA (t5.tdiv ((4:Int))) Qc] {Qd}[Qd':QA (hrread_0 n t0 t2_0 t2_1 t3) Qd] {Qe}[Qe':QA (some (((0:Int),(0:Int),()),false,())) Qe] {Qh}[Qh':QA (t4_0*(16:Int)+(Qb-87)) Qh] {Qi}[Qi':QA (t4_1*(16:Int)+(Qb-87)) Qi] {Qj}[Qj':QA (t4_0*(16:Int)) Qj] {Qk}[Qk':QA (t4_1*(16:Int)) Qk] {Qa}[Qa':QA (bif decide (Qb>=97) then (bif decide (Qb<=102) then (gd [decide (inK .i64 (Qb-87))] (bif t5.tdiv ((4:Int))==0 then (bif t5.tdiv ((4:Int))==0 then (gd [decide (inK .i64 (t5+1)),decide (inK .i64 Qh),decide (inK .i64 Qj),decide (inK .i64 Qc),decide (inK .i64 Qc)] (Qd Qh t4_1 (t5+1))) else (gd [decide (inK .i64 (t5+1)),decide (inK .i64 Qh),decide (inK .i64 Qj),decide (inK .i64 Qc),decide (inK .i64 Qc),t5.tdiv ((4:Int))==1] (Qd t4_0 Qh (t5+1)))) else (gd [t5.tdiv ((4:Int))==1] (bif t5.tdiv ((4:Int))==0 then (gd [decide (inK .i64 (t5+1)),decide (inK .i64 Qi),decide (inK .i64 Qk),decide (inK .i64 Qc),decide (inK .i64 Qc)] (Qd Qi t4_1 (t5+1))) else (gd [decide (inK .i64 (t5+1)),decide (inK .i64 Qi),decide (inK .i64 Qk),decide (inK .i64 Qc),decide (inK .i64 Qc),t5.tdiv ((4:Int))==1] (Qd t4_0 Qi (t5+1))))))) else Qe) else Qe) Qa] {Qf}[Qf':QA (t4_0*(16:Int)+(Qb-48)) Qf] {Qg}[Qg':QA (t4_1*(16:Int)+(Qb-48)) Qg]:hrread_0 (n+1) t0 t2_0 t2_1 t3 t4_0 t4_1 t5= (bif decide (t5<8) then (gd [decide (inK .i64 Qb),decide (0<=t5),decide (t5<t0.length)] (bif decide (Qb>=48) then (bif decide (Qb<=57) then (gd [decide (inK .i64 (Qb-48))] (bif t5.tdiv ((4:Int))==0 then (bif t5.tdiv ((4:Int))==0 then (gd [decide (inK .i64 (t5+1)),decide (inK .i64 Qf),decide (inK .i64 Qj),decide (inK .i64 Qc),decide (inK .i64 Qc)] (Qd Qf t4_1 (t5+1))) else (gd [decide (inK .i64 (t5+1)),decide (inK .i64 Qf),decide (inK .i64 Qj),decide (inK .i64 Qc),decide (inK .i64 Qc),t5.tdiv ((4:Int))==1] (Qd t4_0 Qf (t5+1)))) else (gd [t5.tdiv ((4:Int))==1] (bif t5.tdiv ((4:Int))==0 then (gd [decide (inK .i64 (t5+1)),decide (inK .i64 Qg),decide (inK .i64 Qk),decide (inK .i64 Qc),decide (inK .i64 Qc)] (Qd Qg t4_1 (t5+1))) else (gd [decide (inK .i64 (t5+1)),decide (inK .i64 Qg),decide (inK .i64 Qk),decide (inK .i64 Qc),decide (inK .i64 Qc),t5.tdiv ((4:Int))==1] (Qd t4_0 Qg (t5+1))))))) else Qa) else Qa)) else (bif decide (t4_0>=65521) then Qe else (bif decide (t4_1>=65521) then Qe else (some ((t4_0,t4_1,()),true,()))))):=by obtain ⟨rfl⟩:=Qg';obtain ⟨rfl⟩:=Qf';obtain ⟨rfl⟩:=Qa';obtain ⟨rfl⟩:=Qk';obtain ⟨rfl⟩:=Qj';obtain ⟨rfl⟩:=Qi';obtain ⟨rfl⟩:=Qh';obtain ⟨rfl⟩:=Qe';obtain ⟨rfl⟩:=Qd';obtain ⟨rfl⟩:=Qc';obtain ⟨rfl⟩:=Qb';kernel_rfl
end Go.Proofs.YtldllfocpadkeaaGreatDoor
namespace Nice
open Go Go.Eng
structure InvX (K:Nat) (x:ScanD):Prop where
 st0:0<=x.1
 st9:x.1<=9
 li0:0<=x.2.2.1
 li1:x.2.2.1<=K
 at0:0<=x.2.2.2.1
 at1:x.2.2.2.1<=8
 tx1:x.2.2.2.2.1.length<=K
 hs1:x.2.2.2.2.2.1.2.2.2.1.length<=K
 hs2:∀h,h∈x.2.2.2.2.2.1.2.2.2.1->h.1.length<=K/\h.2.1.length<=K
 hs6:x.1=6->0<x.2.2.2.2.2.1.2.2.2.1.length
 le0: -(K:Int)<=x.2.2.2.2.2.2.1
 le1:x.2.2.2.2.2.2.1<=1000
 ou1:x.2.2.2.2.2.2.2.1.length<=K
theorem trimL_le (s:L8):(trimL s).length<=s.length:=(List.dropWhile_suffix _).length_le
theorem trimR_le (s:L8):(trimR s).length<=s.length:=by
 have:=(List.dropWhile_suffix (l:=s.reverse) isSp).length_le;simpa[trimR] using this
theorem scanLen_nn (hs:List HeadD) (h:mOut hs=0):0<=scanLen hs:=by
 obtain⟨e1,e2⟩:=mOut_ref hs;rw[e2 (by rw[<-e1,h];decide)];exact refLen_nn hs
section
variable {K:Nat} {st su li at':Int} {tx m p q:L8} {hs:List HeadD} {b:L8} {le:Int} {ou:List ReqD}
theorem InvX.mk' (i:InvX K (st,su,li,at',tx,(m,p,q,hs,b,()),le,ou,())) {st' su' li' at2:Int} {tx' m' p' q':L8} {hs':List HeadD} {b':L8} {le':Int} {ou':List ReqD}
  (a1:0<=st'/\st'<=9) (a2:li'=li\/li'=li+1\/li'=0) (a3:0<=at2/\at2<=8) (a4:tx'.length<=tx.length+1)
  (a5:hs'.length<=hs.length+1) (a6:∀h,h∈hs'->h∈hs\/(h.1.length<=K+1/\h.2.1.length<=K+1)) (a7:st'=6->0<hs'.length) (a8:le'=le\/le'=le-1\/(0<=le'/\le'<=300)) (a9:ou'.length<=ou.length+1):
  InvX (K+1) (st',su',li',at2,tx',(m',p',q',hs',b',()),le',ou',()):=by
 obtain⟨j1,j2,j3,j4,j5,j6,j7,j8,j9,j10,j11,j12,j13⟩:=i;simp only at j1 j2 j3 j4 j5 j6 j7 j8 j9 j10 j11 j12 j13;refine⟨a1.1,a1.2,?_,?_,a3.1,a3.2,?_,?_,?_,a7,?_,?_,?_⟩<;>simp only
 ·omega
 ·omega
 ·omega
 ·omega
 ·intro h hh;rcases a6 h hh with h'|h'
  ·have:=j9 h h';omega
  ·exact h'
 ·omega
 ·omega
 ·omega
theorem inv_hdN (i:InvX K (8,su,li,at',tx,(m,p,q,hs,b,()),le,ou,())) (hz:(hdN su 0 at' tx m p q hs b le ou).2=0):InvX (K+1) (hdN su 0 at' tx m p q hs b le ou).1:=by
 have hm:mOut hs=0->0<=scanLen hs:=scanLen_nn hs;unfold mOut at hm;unfold hdN at hz⊢
 revert hz hm
 cases mHeads hs 0 with
 |none=>exact λh _=>absurd h (show ¬(400:Int)=0 by decide)
 |some k=>
  simp only;by_cases h1:1<k
  ·simp only[if_pos h1];exact λh _=>absurd h (show ¬(400:Int)=0 by decide)
  simp only[if_neg h1];by_cases h2:scanLen hs>300
  ·simp only[if_pos h2];exact λh _=>absurd h (show ¬(413:Int)=0 by decide)
  simp only[if_neg h2];intro hz hm;have:=hm trivial;by_cases h3:scanLen hs=0
  ·simp only[if_pos h3];exact i.mk' (by omega) (.inr (.inr rfl)) ⟨i.at0,i.at1⟩ (by simp) (by simp) (λh hh=>by simp at hh) (by omega) (.inr (.inr ⟨by omega,by omega⟩)) (by simp)
  ·simp only[if_neg h3];exact i.mk' (by omega) (.inr (.inr rfl)) ⟨i.at0,i.at1⟩ (by omega) (by omega) (λh hh=>.inl hh) (by omega) (.inr (.inr ⟨by omega,by omega⟩)) (by omega)
theorem mem_set {α:Type} {l:List α} {n:Nat} {a b:α} (h:b∈l.set n a):b∈l\/b=a:=List.mem_or_eq_of_mem_set h
theorem hd_mem (hs:List HeadD) (i:InvX K (6,su,li,at',tx,(m,p,q,hs,b,()),le,ou,())):(hs.getD (hs.length-1) ([],[],())).1.length<=K:=by
 by_cases h:hs.length-1<hs.length
 ·have e:hs.getD (hs.length-1) ([],[],())=hs[hs.length-1]:=by simp[h]
  rw[e];exact(i.hs2 _ (List.getElem_mem h)).1
 ·have e:hs.getD (hs.length-1) ([],[],())=([],[],()):=by simp[List.getD,h]
  rw[e];exact Nat.zero_le _
theorem inv_lnN (i:InvX K (st,su,li,at',tx,(m,p,q,hs,b,()),le,ou,())) (c:UInt8) (h48:4<=st/\st<=8) (hz:(lnN st su li at' tx m p q hs b le ou c).2=0):InvX (K+1) (lnN st su li at' tx m p q hs b le ou c).1:=by
 have t1:tx.length<=K:=i.tx1;have e4:¬(400:Int)=0:=by decide
 unfold lnN at hz⊢;by_cases h1:st=4\/st=7
 ·simp only[if_pos h1] at hz⊢;by_cases h2:c.toNat=10
  ·simp only[if_pos h2];exact i.mk' (by omega) (.inr (.inr rfl)) ⟨i.at0,i.at1⟩ (by omega) (by omega) (λh hh=>.inl hh) (by omega) (.inl rfl) (by omega)
  ·simp only[if_neg h2] at hz;exact absurd hz e4
 simp only[if_neg h1] at hz⊢;by_cases h8:st=8
 ·simp only[if_pos h8] at hz⊢;by_cases h2:c.toNat=10
  ·simp only[if_pos h2] at hz⊢;subst h8;exact inv_hdN i hz
  ·simp only[if_neg h2] at hz;exact absurd hz e4
 simp only[if_neg h8] at hz⊢;by_cases h6:st=6
 ·simp only[if_pos h6] at hz⊢;subst h6;by_cases h2:c.toNat=13
  ·simp only[if_pos h2];refine i.mk' (by omega) (.inl rfl) ⟨i.at0,i.at1⟩ (by simp) (by simp) (λh hh=> ?_) (by omega) (.inl rfl) (by omega);rcases mem_set hh with hh|rfl
   ·exact .inl hh
   ·refine .inr ⟨?_,?_⟩
    ·have:=hd_mem hs i;simp only;omega
    ·have a:=trimL_le (trimR tx);have b:=trimR_le tx;simp only;omega
  simp only[if_neg h2] at hz⊢;by_cases h3:32<=c.toNat/\c.toNat<=126\/c.toNat=9
  ·simp only[if_pos h3];exact i.mk' (by omega) (.inr (.inl rfl)) ⟨i.at0,i.at1⟩ (by simp) (by omega) (λh hh=>.inl hh) (λ_=>i.hs6 rfl) (.inl rfl) (by omega)
  ·simp only[if_neg h3] at hz;exact absurd hz e4
 simp only[if_neg h6] at hz⊢;by_cases h2:c.toNat=13/\li=0
 ·simp only[if_pos h2];exact i.mk' (by omega) (.inl rfl) ⟨i.at0,i.at1⟩ (by omega) (by omega) (λh hh=>.inl hh) (by omega) (.inl rfl) (by omega)
 simp only[if_neg h2] at hz⊢;by_cases h3:c.toNat=58/\li>0
 ·simp only[if_pos h3];refine i.mk' (by omega) (.inr (.inl rfl)) ⟨i.at0,i.at1⟩ (by simp) (by simp) (λh hh=> ?_) (λ_=>by simp) (.inl rfl) (by omega);rcases List.mem_append.1 hh with hh|hh
  ·exact .inl hh
  ·simp only[List.mem_cons,List.not_mem_nil,or_false] at hh;subst hh;exact .inr ⟨by simp only;omega,by simp⟩
 simp only[if_neg h3] at hz⊢;by_cases h4:isTok c=true
 ·simp only[if_pos h4];exact i.mk' (by omega) (.inr (.inl rfl)) ⟨i.at0,i.at1⟩ (by simp) (by omega) (λh hh=>.inl hh) (by omega) (.inl rfl) (by omega)
 ·simp only[if_neg h4] at hz;exact absurd hz e4
theorem inv_mst (i:InvX K (st,su,li,at',tx,(m,p,q,hs,b,()),le,ou,())) (c:UInt8) (hz:(mst st su li at' tx m p q hs b le ou c).2=0):InvX (K+1) (mst st su li at' tx m p q hs b le ou c).1:=by
 have t1:tx.length<=K:=i.tx1;have s0:0<=st:=i.st0;have s9:st<=9:=i.st9;have e4:¬(400:Int)=0:=by decide
 have a01:0<=at'/\at'<=8:=⟨i.at0,i.at1⟩
 have r1:∀(st' li':Int) (tx' m' p' q':L8),0<=st'->st'<=9->st'≠6->(li'=li\/li'=li+1)->tx'.length<=tx.length+1->InvX (K+1) (st',su,li',at',tx',(m',p',q',hs,b,()),le,ou,()):=
  λst' li' tx' m' p' q' b1 b2 b3 b4 b5=>i.mk' ⟨b1,b2⟩ (by omega) a01 b5 (by omega) (λh hh=>.inl hh) (λh=>absurd h b3) (.inl rfl) (by omega)
 unfold mst at hz⊢;by_cases hl:longN (st,su,li,at',tx,(m,p,q,hs,b,()),le,ou,()) c≠0
 ·rw[if_pos hl] at hz;exact absurd hz hl
 simp only[if_neg hl] at hz⊢;by_cases h0:st=0
 ·simp only[if_pos h0] at hz⊢;by_cases h1:isCap c=true/\li<10
  ·simp only[if_pos h1];exact r1 _ _ _ _ _ _ (by omega) (by omega) (by omega) (by omega) (by simp)
  simp only[if_neg h1] at hz⊢;by_cases h2:c.toNat=32/\li>0
  ·simp only[if_pos h2];exact r1 _ _ _ _ _ _ (by omega) (by omega) (by omega) (by omega) (by simp)
  ·simp only[if_neg h2] at hz;exact absurd hz e4
 simp only[if_neg h0] at hz⊢;by_cases h1:st=1
 ·simp only[if_pos h1] at hz⊢;by_cases h2:tx.length=0/\c.toNat≠47
  ·simp only[if_pos h2] at hz;exact absurd hz e4
  simp only[if_neg h2] at hz⊢;by_cases h3:c.toNat=63
  ·simp only[if_pos h3];exact r1 _ _ _ _ _ _ (by omega) (by omega) (by omega) (by omega) (by simp)
  simp only[if_neg h3] at hz⊢;by_cases h4:c.toNat=32
  ·simp only[if_pos h4];exact r1 _ _ _ _ _ _ (by omega) (by omega) (by omega) (by omega) (by simp)
  simp only[if_neg h4] at hz⊢;by_cases h5:isVis c=true
  ·simp only[if_pos h5];exact r1 _ _ _ _ _ _ (by omega) (by omega) (by omega) (by omega) (by simp)
  ·simp only[if_neg h5] at hz;exact absurd hz e4
 simp only[if_neg h1] at hz⊢;by_cases h2:st=2
 ·simp only[if_pos h2] at hz⊢;by_cases h4:c.toNat=32
  ·simp only[if_pos h4];exact r1 _ _ _ _ _ _ (by omega) (by omega) (by omega) (by omega) (by simp)
  simp only[if_neg h4] at hz⊢;by_cases h5:isVis c=true
  ·simp only[if_pos h5];exact r1 _ _ _ _ _ _ (by omega) (by omega) (by omega) (by omega) (by simp)
  ·simp only[if_neg h5] at hz;exact absurd hz e4
 simp only[if_neg h2] at hz⊢;by_cases h3:st=3
 ·simp only[if_pos h3] at hz⊢;by_cases h8:at'=8
  ·simp only[if_pos h8] at hz⊢;by_cases h4:c.toNat=13
   ·simp only[if_pos h4];exact i.mk' (by omega) (.inl rfl) (by omega) (by omega) (by omega) (λh hh=>.inl hh) (by omega) (.inl rfl) (by omega)
   ·simp only[if_neg h4] at hz;exact absurd hz e4
  simp only[if_neg h8] at hz⊢;by_cases h4:c.toNat=(verB.getD at'.toNat 0).toNat
  ·simp only[if_pos h4];exact i.mk' (by omega) (.inr (.inl rfl)) (by omega) (by omega) (by omega) (λh hh=>.inl hh) (by omega) (.inl rfl) (by omega)
  ·simp only[if_neg h4] at hz;exact absurd hz e4
 simp only[if_neg h3] at hz⊢;by_cases h9:st=9
 ·simp only[if_pos h9] at hz⊢;by_cases h4:le-1=0
  ·simp only[if_pos h4];exact i.mk' (by omega) (.inl rfl) (by omega) (by simp) (by simp) (λh hh=>by simp at hh) (by omega) (.inr (.inl rfl)) (by simp)
  ·simp only[if_neg h4];exact i.mk' (by omega) (.inl rfl) (by omega) (by simp) (by omega) (λh hh=>.inl hh) (by omega) (.inr (.inl rfl)) (by omega)
 simp only[if_neg h9] at hz⊢;exact inv_lnN i c (by omega) hz
end
theorem InvX.ok {K:Nat} {st su li at':Int} {tx m p q:L8} {hs:List HeadD} {b:L8} {le:Int} {ou:List ReqD} (i:InvX K (st,su,li,at',tx,(m,p,q,hs,b,()),le,ou,())) (hK:K<=1000000):OkX st li at' tx hs le ou:=by
 obtain⟨j1,j2,j3,j4,j5,j6,j7,j8,j9,j10,j11,j12,j13⟩:=i;simp only at j1 j2 j3 j4 j5 j6 j7 j8 j9 j10 j11 j12 j13;exact⟨j3,by omega,j5,j6,by omega,by omega,λh hh=>by have:=j9 h hh;omega,j10,by omega,by omega,by omega⟩
theorem InvX.out {K:Nat} {st su li at':Int} {tx:L8} {rq:ReqD} {le:Int} {ou:List ReqD} (i:InvX K (st,su,li,at',tx,rq,le,ou,())):InvX K (st,su,li,at',tx,rq,le,[],()):=by
 obtain⟨j1,j2,j3,j4,j5,j6,j7,j8,j9,j10,j11,j12,j13⟩:=i;exact⟨j1,j2,j3,j4,j5,j6,j7,j8,j9,j10,j11,j12,Nat.zero_le _⟩
theorem inv_init (ou:List ReqD):InvX ou.length (initX ou):=
 ⟨Int.le_refl 0,by show(0:Int)<=9;decide,Int.le_refl 0,by show(0:Int)<=(ou.length:Int);omega,Int.le_refl 0,by show(0:Int)<=8;decide,Nat.zero_le _,Nat.zero_le _,λh hh=>by simp at hh,λh=>absurd h (show ¬(0:Int)=6 by decide),by show -(ou.length:Int)<=0;omega,by show(0:Int)<=1000;decide,Nat.le_refl _⟩
theorem inv_feed1 {K:Nat} {x:ScanD} (i:InvX K x) (c:UInt8) (hz:(feed1 x c).2.1=0):InvX (K+1) (feed1 x c):=by
 have:=inv_mst i c hz;obtain⟨j1,j2,j3,j4,j5,j6,j7,j8,j9,j10,j11,j12,j13⟩:=this;exact⟨j1,j2,j3,j4,j5,j6,j7,j8,j9,j10,j11,j12,j13⟩
theorem inv_run:∀(s:L8) (K:Nat) (x:ScanD),(x.2.1=0->InvX K x)->(mrun x s).2.1=0->InvX (K+s.length) (mrun x s)
 |[],K,x,i,hz=>i hz
 |c::r,K,x,i,hz=>by
  unfold mrun at hz⊢;by_cases h:x.2.1=0
  ·rw[if_pos h] at hz⊢;have:=inv_run r (K+1) (feed1 x c) (λh'=>inv_feed1 (i h) c h') hz;rw[show K+(c::r).length=K+1+r.length by simp only[List.length_cons];omega];exact this
  ·rw[if_neg h] at hz;exact absurd hz h
open Go Go.Eng
def preX (l:List ReqD) (x:ScanD):ScanD:=(x.1,x.2.1,x.2.2.1,x.2.2.2.1,x.2.2.2.2.1,x.2.2.2.2.2.1,x.2.2.2.2.2.2.1,l++x.2.2.2.2.2.2.2.1,())
def outX (x:ScanD):List ReqD:=x.2.2.2.2.2.2.2.1
def clX (x:ScanD):ScanD:=(x.1,x.2.1,x.2.2.1,x.2.2.2.1,x.2.2.2.2.1,x.2.2.2.2.2.1,x.2.2.2.2.2.2.1,[],())
theorem hdN_pre (l:List ReqD) (su li at':Int) (tx m p q:L8) (hs:List HeadD) (b:L8) (le:Int) (ou:List ReqD):
  hdN su li at' tx m p q hs b le (l++ou)=(preX l (hdN su li at' tx m p q hs b le ou).1,(hdN su li at' tx m p q hs b le ou).2)/\(outX (hdN su li at' tx m p q hs b le ou).1).length<=ou.length+1:=by
 unfold hdN;cases mHeads hs 0 with
 |none=>exact⟨rfl,Nat.le_succ _⟩
 |some k=>
  simp only
  repeat' split
  ·exact⟨rfl,Nat.le_succ _⟩
  ·exact⟨rfl,Nat.le_succ _⟩
  ·exact⟨by simp only[preX,List.append_assoc],by simp[outX]⟩
  ·exact⟨rfl,Nat.le_succ _⟩
theorem lnN_pre (l:List ReqD) (st su li at':Int) (tx m p q:L8) (hs:List HeadD) (b:L8) (le:Int) (ou:List ReqD) (c:UInt8):
  lnN st su li at' tx m p q hs b le (l++ou) c=(preX l (lnN st su li at' tx m p q hs b le ou c).1,(lnN st su li at' tx m p q hs b le ou c).2)/\(outX (lnN st su li at' tx m p q hs b le ou c).1).length<=ou.length+1:=by
 unfold lnN
 repeat' split
 all_goals first|exact hdN_pre l su 0 at' tx m p q hs b le ou|exact⟨rfl,Nat.le_succ _⟩
theorem mst_pre (l:List ReqD) (st su li at':Int) (tx m p q:L8) (hs:List HeadD) (b:L8) (le:Int) (ou:List ReqD) (c:UInt8):
  mst st su li at' tx m p q hs b le (l++ou) c=(preX l (mst st su li at' tx m p q hs b le ou c).1,(mst st su li at' tx m p q hs b le ou c).2)/\(outX (mst st su li at' tx m p q hs b le ou c).1).length<=ou.length+1:=by
 unfold mst;have e:longN (st,su,li,at',tx,(m,p,q,hs,b,()),le,l++ou,()) c=longN (st,su,li,at',tx,(m,p,q,hs,b,()),le,ou,()) c:=rfl;rw[e]
 repeat' split
 all_goals first|exact lnN_pre l st su li at' tx m p q hs b le ou c|exact⟨rfl,Nat.le_succ _⟩|exact⟨by simp only[preX,List.append_assoc],by simp[outX]⟩
theorem feed1_pre (l:List ReqD) (x:ScanD) (c:UInt8):feed1 (preX l x) c=preX l (feed1 x c):=by
 obtain⟨st,su,li,at',tx,⟨m,p,q,hs,b,⟨⟩⟩,le,ou,⟨⟩⟩:=x;have h:=(mst_pre l st su li at' tx m p q hs b le ou c).1;show((mst st su li at' tx m p q hs b le (l++ou) c).1.1,(mst st su li at' tx m p q hs b le (l++ou) c).2,(mst st su li at' tx m p q hs b le (l++ou) c).1.2.2)=_;rw[h];rfl
theorem feed1_out (x:ScanD) (c:UInt8):(outX (feed1 x c)).length<=(outX x).length+1:=by
 obtain⟨st,su,li,at',tx,⟨m,p,q,hs,b,⟨⟩⟩,le,ou,⟨⟩⟩:=x;exact(mst_pre [] st su li at' tx m p q hs b le ou c).2
theorem mrun_pre (l:List ReqD):∀(s:L8) (x:ScanD),mrun (preX l x) s=preX l (mrun x s)
 |[],x=>rfl
 |c::r,x=>by
  show(if x.2.1=0 then mrun (feed1 (preX l x) c) r else preX l x)=preX l (if x.2.1=0 then mrun (feed1 x c) r else x);by_cases h:x.2.1=0
  ·rw[if_pos h,if_pos h,feed1_pre,mrun_pre l r]
  ·rw[if_neg h,if_neg h]
theorem mrun_out:∀(s:L8) (x:ScanD),(outX (mrun x s)).length<=(outX x).length+s.length
 |[],x=>Nat.le_refl _
 |c::r,x=>by
  show(outX (if x.2.1=0 then mrun (feed1 x c) r else x)).length<=_;by_cases h:x.2.1=0
  ·rw[if_pos h];have:=mrun_out r (feed1 x c);have:=feed1_out x c;simp only[List.length_cons];omega
  ·rw[if_neg h];exact Nat.le_add_right _ _
theorem preX_cl (x:ScanD):preX (outX x) (clX x)=x:=by
 obtain⟨st,su,li,at',tx,rq,le,ou,⟨⟩⟩:=x;show(st,su,li,at',tx,rq,le,ou++[],())=_;rw[List.append_nil]
theorem mrun_two (x:ScanD) (a b:L8):clX (mrun x (a++b))=clX (mrun (clX (mrun x a)) b)/\outX (mrun x (a++b))=outX (mrun x a)++outX (mrun (clX (mrun x a)) b):=by
 rw[mrun_app];have h:=mrun_pre (outX (mrun x a)) b (clX (mrun x a));rw[preX_cl] at h;rw[h];exact⟨rfl,rfl⟩
end Nice
namespace Go.Proofs.YtldllfocpadkeaaGreatDoor
open Go Go.Eng Nice
set_option maxRecDepth 1000000
def a1r:Int->Int->L8->L8->L8->L8->L8->Option LD
 |st,at',tx,m,p,q,[]=>some (st,at',tx,m,p,q)
 |st,at',tx,m,p,q,c::r=>match a1 st at' tx m p q c with
  |none=>none
  |some (st',at2,tx',m',p',q')=>a1r st' at2 tx' m' p' q' r
def Spec1 (o:Option LD) (L:Int) (z:Unit×ReqD×Int×Bool×Unit):Prop:=match o with
 |none=>z.2.2.1≠L/\z.2.2.2.1=false
 |some (st,at',tx,m,p,q)=>z.2.2.1=L/\z.2.2.2.1=decide (st=3/\at'=8)/\(st=3/\at'=8->z.2.1=(m,p,q,[],[],()))
theorem a1r_bad {st at':Int} {tx m p q:L8} {c:UInt8} {r:L8} (h:a1 st at' tx m p q c=none):a1r st at' tx m p q (c::r)=none:=by simp only[a1r,h]
theorem a1r_ok {st at':Int} {tx m p q:L8} {c:UInt8} {r:L8} {st' at2:Int} {tx' m' p' q':L8} (h:a1 st at' tx m p q c=some (st',at2,tx',m',p',q')):a1r st at' tx m p q (c::r)=a1r st' at2 tx' m' p' q' r:=by simp only[a1r,h]
theorem slice_mid (X Y Z:L8):List.drop X.length (List.take (X.length+Y.length) (X++(Y++Z)))=Y:=by
 rw[<-List.append_assoc,<-List.length_append,List.take_left,List.drop_left]
theorem first_2 (s m p q:L8) (hs:s.length<=1000000):∀(u B:L8) (j n:Nat),s=B++u->j<=8->u.length<n->
  ∃z,hfirst_2 n s [] [] [] [] 0 false m p q [] (B.length:Int) verB (j:Int)=some z/\Spec1 (a1r 3 j [] m p q u) s.length z:=by
 intro u
 induction u with
 |nil=>
  intro B j n he hj hn;obtain⟨n,rfl⟩:∃k,n=k+1:=⟨n-1,by omega⟩
  have hl:s.length=B.length:=by rw[he,List.append_nil]
  rw[efirst_2];by_cases h8:j=8
  ·subst h8;rw[cdF (by decide),ceT (by omega)];exact⟨_,rfl,by show(B.length:Int)=_;omega,rfl,λ_=>rfl⟩
  ·rw[cdT (show(j:Int)<(verB.length:Int) by show(j:Int)<((8:Nat):Int);omega),ceT (by omega)];refine⟨_,rfl,by show(B.length:Int)=_;omega,?_,λh=> ?_⟩
   ·exact(decide_eq_false (by omega)).symm
   ·omega
 |cons c u ih=>
  intro B j n he hj hn;obtain⟨n,rfl⟩:∃k,n=k+1:=⟨n-1,by omega⟩
  simp only[List.length_cons] at hn;have hl:s.length=B.length+u.length+1:=by rw[he];simp only[List.length_append,List.length_cons];omega
  have hg:s.getD B.length 0=c:=by rw[he];exact getD_mid _ _ _ _
  rw[efirst_2];by_cases h8:j=8
  ·subst h8;rw[cdF (by decide),ceF (by omega),a1r_bad (by simp[a1])];exact⟨_,rfl,by show(B.length:Int)≠_;omega,rfl⟩
  ·rw[cdT (show(j:Int)<(verB.length:Int) by show(j:Int)<((8:Nat):Int);omega),ceF (by omega)];rw[show(B.length:Int).toNat=B.length from rfl,hg];by_cases hv:c.toNat=(verB.getD (j:Int).toNat 0).toNat
   ·rw[cnF (by omega),gdT (inK_i64.2 ⟨by omega,by omega⟩),gdT (inK_i64.2 ⟨by omega,by omega⟩),gdT (by omega),gdT (show(j:Int)<(verB.length:Int) by show(j:Int)<((8:Nat):Int);omega),gdT (by omega),gdT (by omega),gN];have:=ih (B++[c]) (j+1) n (by rw[he,List.append_assoc];rfl) (by omega) (by omega);simp only[List.length_append,List.length_singleton,Int.natCast_add,Int.natCast_one] at this
    rw[a1r_ok (st':=3) (at2:=(j:Int)+1) (tx':=[]) (m':=m) (p':=p) (q':=q) (by unfold a1;rw[if_neg (by decide),if_neg (by decide),if_neg (by decide),if_neg (by omega),if_pos hv])];exact this
   ·rw[cnT (by omega),gdT (by omega),gdT (show(j:Int)<(verB.length:Int) by show(j:Int)<((8:Nat):Int);omega),gdT (by omega),gdT (by omega),gN];rw[a1r_bad (by unfold a1;rw[if_neg (by decide),if_neg (by decide),if_neg (by decide),if_neg (by omega),if_neg hv])];exact⟨_,rfl,by show(B.length:Int)≠_;omega,rfl⟩
theorem isVis_iff {c:UInt8}:isVis c=true↔33<=c.toNat/\c.toNat<=126/\c.toNat≠35:=by unfold isVis;rw[decide_eq_true_iff]
def Targ (s A:L8) (st:Int) (tx p u:L8) (i:Nat) (k:Int):Prop:=
 (st=1/\k= -1/\p=[]/\s=A++(tx++u)/\i=A.length+tx.length)\/(st=2/\k=((A.length+p.length:Nat):Int)/\s=A++(p++(63::(tx++u)))/\i=A.length+p.length+1+tx.length)
theorem Targ.len {s A:L8} {st:Int} {tx p u:L8} {i:Nat} {k:Int} (h:Targ s A st tx p u i k):s.length=i+u.length/\A.length<=i:=by
 rcases h with⟨-, -, -,rfl,rfl⟩|⟨-, -,rfl,rfl⟩
 ·simp only[List.length_append];omega
 ·simp only[List.length_append,List.length_cons];omega
theorem Targ.drop {s A:L8} {st:Int} {tx p u:L8} {i:Nat} {k:Int} (h:Targ s A st tx p u i k):s=s.take i++u:=by
 rcases h with⟨-, -, -,rfl,rfl⟩|⟨-, -,rfl,rfl⟩
 ·rw[<-List.append_assoc,<-List.length_append,List.take_left]
 ·have e:A++(p++63::(tx++u))=(A++p++[63]++tx)++u:=by simp
  rw[e,show A.length+p.length+1+tx.length=(A++p++[63]++tx).length by(simp;omega),List.take_left]
theorem Targ.get {s A:L8} {st:Int} {tx p u:L8} {c:UInt8} {i:Nat} {k:Int} (h:Targ s A st tx p (c::u) i k):s.getD i 0=c:=by
 have e:=h.drop;have l:=h.len;have hl:(s.take i).length=i:=by rw[List.length_take];omega
 have:=getD_mid (s.take i) u c 0;rw[hl,<-e] at this;exact this
theorem tail1 (s m A:L8) (hs:s.length<=1000000) (st:Int) (tx p u:L8) (i n:Nat) (k:Int) (h:Targ s A st tx p u i k) (hu:∀c r,u=c::r->isVis c=false/\(st=1->tx≠[])) (hn:u.length<=n):
  ∃z,(bif decide (k>=(0:Int)) then
   (gd [decide ((0:Int)<=k+(1:Int)),decide (k+(1:Int)<=(i:Int)),decide ((i:Int)<=(↑s.length:Int)),decide (inK IntKind.i64 (k+(1:Int))),decide ((0:Int)<=(A.length:Int)),decide ((A.length:Int)<=k),decide (k<=(↑s.length:Int))] (bif (i:Int)==(↑s.length:Int) then
    (some ((),(m,List.drop (A.length:Int).toNat (List.take k.toNat s),List.drop (k+(1:Int)).toNat (List.take (i:Int).toNat s),[],([]:L8),()),(i:Int),false,()))
   else
    (bif (↑(s.getD (i:Int).toNat 0).toNat:Int) !=(32:Int) then
     (gd [decide ((0:Int)<=(i:Int)),decide ((i:Int)<(↑s.length:Int))] (some ((),(m,List.drop (A.length:Int).toNat (List.take k.toNat s),List.drop (k+(1:Int)).toNat (List.take (i:Int).toNat s),[],([]:L8),()),(i:Int),false,())))
    else
     (gd [decide (inK IntKind.i64 ((i:Int)+(1:Int))),decide ((0:Int)<=(i:Int)),decide ((i:Int)<(↑s.length:Int))] (hfirst_2 n (s) ([]) ([]) ([]) ([]) ((0:Int)) (false) (m) (List.drop (A.length:Int).toNat (List.take k.toNat s)) (List.drop (k+(1:Int)).toNat (List.take (i:Int).toNat s)) (([]:L8)) ((i:Int)+(1:Int)) ([72,84,84,80,47,49,46,49]) ((0:Int)))))))
  else
   (bif (i:Int)==(↑s.length:Int) then
    (some ((),(m,List.drop (A.length:Int).toNat (List.take (i:Int).toNat s),([]:L8),[],([]:L8),()),(i:Int),false,()))
   else
    (bif (↑(s.getD (i:Int).toNat 0).toNat:Int) !=(32:Int) then
     (gd [decide ((0:Int)<=(i:Int)),decide ((i:Int)<(↑s.length:Int))] (some ((),(m,List.drop (A.length:Int).toNat (List.take (i:Int).toNat s),([]:L8),[],([]:L8),()),(i:Int),false,())))
    else
     (gd [decide (inK IntKind.i64 ((i:Int)+(1:Int))),decide ((0:Int)<=(i:Int)),decide ((i:Int)<(↑s.length:Int))] (hfirst_2 n (s) ([]) ([]) ([]) ([]) ((0:Int)) (false) (m) (List.drop (A.length:Int).toNat (List.take (i:Int).toNat s)) (([]:L8)) (([]:L8)) ((i:Int)+(1:Int)) ([72,84,84,80,47,49,46,49]) ((0:Int)))))))=some z/\Spec1 (a1r st 0 tx m p [] u) s.length z:=by
 have hf:List.drop A.length (List.take (if st=1 then(i:Int) else k).toNat s)=if st=1 then tx else p:=by
  rcases h with⟨h1, -, -,rfl,rfl⟩|⟨h1,rfl,rfl,rfl⟩
  ·rw[if_pos h1,if_pos h1];exact slice_mid A tx u
  ·rw[if_neg (by omega),if_neg (by omega)];exact slice_mid A p _
 have hq:st=2->List.drop (k+1).toNat (List.take i s)=tx:=by
  intro h2;rcases h with⟨h1, -, -,rfl,rfl⟩|⟨h1,rfl,rfl,rfl⟩
  ·omega
  ·have e:A++(p++63::(tx++u))=(A++p++[63])++(tx++u):=by simp
   rw[e,show(((A.length+p.length:Nat):Int)+1).toNat=(A++p++[63]).length by simp;omega,show A.length+p.length+1+tx.length=(A++p++[63]).length+tx.length by(simp;omega)];exact slice_mid _ _ _
 obtain⟨hl,hA⟩:=h.len;have hk:(st=1/\k= -1/\p=[])\/(st=2/\(A.length:Int)<=k/\k+1<=i):=by
  rcases h with⟨h1,h2,h3, -, -⟩|⟨h1,rfl, -,rfl⟩
  ·exact .inl ⟨h1,h2,h3⟩
  ·exact .inr ⟨h1,by omega,by omega⟩
 have hg:=λc r (e:u=c::r)=>(Targ.get (e▸h):s.getD i 0=c)
 have hd:=h.drop;rcases hk with⟨rfl,rfl,rfl⟩|⟨rfl,hk1,hk2⟩
 ·rw[if_pos rfl,if_pos rfl] at hf;rw[cdF (by decide)];cases u with
  |nil=>
   rw[ceT (by simp only[List.length_nil] at hl;omega)];exact⟨_,rfl,by show(i:Int)=_;simp only[List.length_nil] at hl;omega,rfl,λh=>by omega⟩
  |cons c r=>
   simp only[List.length_cons] at hl hn;obtain⟨hv,ht⟩:=hu c r rfl;have ht:=List.length_pos_iff.2 (ht rfl);have hvn:¬(33<=c.toNat/\c.toNat<=126/\c.toNat≠35):=λh=>by rw[isVis_iff.2 h] at hv;cases hv
   rw[ceF (by omega),show(i:Int).toNat=i from rfl,hg c r rfl];by_cases h32:c.toNat=32
   ·rw[cnF (by omega),gdT (inK_i64.2 ⟨by omega,by omega⟩),gdT (by omega),gdT (by omega),gN];rw[show(i:Int).toNat=i from rfl] at hf;rw[show(A.length:Int).toNat=A.length from rfl,hf,show([72,84,84,80,47,49,46,49]:L8)=verB from rfl];have:=first_2 s m tx [] hs r (s.take i++[c]) 0 n (by rw[List.append_assoc];exact hd) (by omega) (by omega)
    rw[show((s.take i++[c]).length:Int)=(i:Int)+1 by rw[List.length_append,List.length_take];simp only[List.length_singleton];omega] at this;rw[a1r_ok (st':=3) (at2:=0) (tx':=[]) (m':=m) (p':=tx) (q':=[]) (by unfold a1;rw[if_neg (by decide),if_pos rfl,if_neg (by omega),if_neg (by omega),if_pos h32])];exact this
   ·rw[cnT (by omega),gdT (by omega),gdT (by omega),gN];rw[a1r_bad (by unfold a1;rw[if_neg (by decide),if_pos rfl,if_neg (by omega),if_neg (by omega),if_neg h32,if_neg (by rw[hv];decide)])];exact⟨_,rfl,by show(i:Int)≠_;omega,rfl⟩
 ·rw[if_neg (by decide),if_neg (by decide)] at hf;have hq:=hq rfl;rw[cdT (by omega),gdT (by omega),gdT (by omega),gdT (by omega),gdT (inK_i64.2 ⟨by omega,by omega⟩),gdT (by omega),gdT (by omega),gdT (by omega),gN];rw[show(A.length:Int).toNat=A.length from rfl,show(i:Int).toNat=i from rfl,hf,hq];cases u with
  |nil=>
   rw[ceT (by simp only[List.length_nil] at hl;omega)];exact⟨_,rfl,by show(i:Int)=_;simp only[List.length_nil] at hl;omega,rfl,λh=>by omega⟩
  |cons c r=>
   simp only[List.length_cons] at hl hn;obtain⟨hv, -⟩:=hu c r rfl;rw[ceF (by omega),hg c r rfl];by_cases h32:c.toNat=32
   ·rw[cnF (by omega),gdT (inK_i64.2 ⟨by omega,by omega⟩),gdT (by omega),gdT (by omega),gN];rw[show([72,84,84,80,47,49,46,49]:L8)=verB from rfl];have:=first_2 s m p tx hs r (s.take i++[c]) 0 n (by rw[List.append_assoc];exact hd) (by omega) (by omega);rw[show((s.take i++[c]).length:Int)=(i:Int)+1 by rw[List.length_append,List.length_take];simp only[List.length_singleton];omega] at this
    rw[a1r_ok (st':=3) (at2:=0) (tx':=[]) (m':=m) (p':=p) (q':=tx) (by unfold a1;rw[if_neg (by decide),if_neg (by decide),if_pos rfl,if_pos h32])];exact this
   ·rw[cnT (by omega),gdT (by omega),gdT (by omega),gN];rw[a1r_bad (by unfold a1;rw[if_neg (by decide),if_neg (by decide),if_pos rfl,if_neg h32,if_neg (by rw[hv];decide)])];exact⟨_,rfl,by show(i:Int)≠_;omega,rfl⟩
theorem first_1 (s m A:L8) (hs:s.length<=1000000):∀(u:L8) (st:Int) (tx p:L8) (i n:Nat) (k:Int),Targ s A st tx p u i k->(∀c r,u=c::r->st=1->tx=[]->c.toNat=47)->u.length<n->
  ∃z,hfirst_1 n s [] [] [] [] 0 false m [] [] [] (i:Int) (A.length:Int) k=some z/\Spec1 (a1r st 0 tx m p [] u) s.length z:=by
 intro u
 induction u with
 |nil=>
  intro st tx p i n k h hc hn;obtain⟨n,rfl⟩:∃k,n=k+1:=⟨n-1,by omega⟩
  obtain⟨hl,hA⟩:=h.len;simp only[List.length_nil] at hl;rw[efirst_1,cdF (by omega),gdT (by omega),gdT (by omega),gdT (by omega),gN];exact tail1 s m A hs st tx p [] i n k h (λc r e=>by cases e) (by simp)
 |cons c u ih=>
  intro st tx p i n k h hc hn;obtain⟨n,rfl⟩:∃k,n=k+1:=⟨n-1,by omega⟩
  obtain⟨hl,hA⟩:=h.len;simp only[List.length_cons] at hl hn;have hg:=h.get;have t1:=λhv=>tail1 s m A hs st tx p (c::u) i n k h (λc' r' e=>by cases e;exact⟨hv,λh1 ht=>by have:=hc c u rfl h1 ht;rw[isVis_iff.2 ⟨by omega,by omega,by omega⟩] at hv;cases hv⟩) (by simp only[List.length_cons];omega)
  rw[efirst_1,cdT (by omega)];rw[show(i:Int).toNat=i from rfl] at t1⊢;rw[hg] at t1⊢;by_cases h1:33<=c.toNat
  ·rw[cdT (by omega)];by_cases h2:c.toNat<=126
   ·rw[cdT (by omega)];by_cases h3:c.toNat=35
    ·rw[cnF (by omega),gdT (by omega),gdT (by omega),gdT (by omega),gdT (by omega),gdT (by omega),gdT (by omega),gdT (by omega),gdT (by omega),gdT (by omega),gN];exact t1 (by cases hv:isVis c;rfl;have:=isVis_iff.1 hv;omega)
    ·have hv:isVis c=true:=isVis_iff.2 ⟨h1,h2,h3⟩;rw[cnT (by omega),gdT (by omega),gdT (by omega),gdT (by omega),gdT (by omega),gdT (by omega),gdT (by omega),gN];rcases h with⟨rfl,rfl,rfl,he,hi⟩|⟨rfl,rfl,he,hi⟩
     ·have h47:=hc c u rfl rfl;by_cases h63:c.toNat=63
      ·rw[ceT (by omega),cdT (by decide),gdT (inK_i64.2 ⟨by omega,by omega⟩),gdT (by omega),gdT (by omega),gN];have c63:c=63:=UInt8.toNat.inj h63;have:=ih 2 [] tx (i+1) n (i:Int) (.inr ⟨rfl,by rw[hi],by rw[he,c63];rfl,by simp only[List.length_nil];omega⟩) (λc r e h=>by omega) (by omega);rw[a1r_ok (st':=2) (at2:=0) (tx':=[]) (m':=m) (p':=tx) (q':=[]) (by unfold a1;rw[if_neg (by decide),if_pos rfl,if_neg (λh=>by have:=h47 (List.length_eq_zero_iff.1 h.1);omega),if_pos h63])]
       exact this
      ·rw[ceF (by omega),gdT (inK_i64.2 ⟨by omega,by omega⟩),gdT (by omega),gdT (by omega),gN];have:=ih 1 (tx++[c]) [] (i+1) n (-1) (.inl ⟨rfl,rfl,rfl,by rw[he,List.append_assoc];rfl,by simp only[List.length_append,List.length_singleton];omega⟩) (λc' r' e h h'=>by simp at h') (by omega);rw[a1r_ok (st':=1) (at2:=0) (tx':=tx++[c]) (m':=m) (p':=[]) (q':=[]) (by unfold a1;rw[if_neg (by decide),if_pos rfl,if_neg (λh=>by have:=h47 (List.length_eq_zero_iff.1 h.1);omega),if_neg h63,if_neg (by omega),if_pos hv])]
       exact this
     ·have ea:a1 2 0 tx m p [] c=some (2,0,tx++[c],m,p,[]):=by unfold a1;rw[if_neg (by decide),if_neg (by decide),if_pos rfl,if_neg (by omega),if_pos hv]
      have:=ih 2 (tx++[c]) p (i+1) n _ (.inr ⟨rfl,rfl,by rw[he];simp,by simp only[List.length_append,List.length_singleton];omega⟩) (λc' r' e h h'=>by omega) (by omega);rw[a1r_ok ea];by_cases h63:c.toNat=63
      ·rw[ceT (by omega),cdF (by omega),gdT (inK_i64.2 ⟨by omega,by omega⟩),gdT (by omega),gdT (by omega),gN];exact this
      ·rw[ceF (by omega),gdT (inK_i64.2 ⟨by omega,by omega⟩),gdT (by omega),gdT (by omega),gN];exact this
   ·rw[cdF (by omega),gdT (by omega),gdT (by omega),gdT (by omega),gdT (by omega),gdT (by omega),gdT (by omega),gdT (by omega),gN];exact t1 (by cases hv:isVis c;rfl;have:=isVis_iff.1 hv;omega)
  ·rw[cdF (by omega),gdT (by omega),gdT (by omega),gdT (by omega),gdT (by omega),gdT (by omega),gN];exact t1 (by cases hv:isVis c;rfl;have:=isVis_iff.1 hv;omega)
theorem tail0 (s cs:L8) (hs:s.length<=1000000) (c:UInt8) (u:L8) (i n:Nat) (he:s=cs++c::u) (hi:i=cs.length) (hc:¬(isCap c=true/\cs.length<10)) (hn:u.length<n):
  ∃z,(bif (i:Int)==(↑s.length:Int) then
   (some ((),(List.take (i:Int).toNat s,([]:L8),([]:L8),[],([]:L8),()),(i:Int),false,()))
  else
   (bif (i:Int)==(0:Int) then
    (some ((),(List.take (i:Int).toNat s,([]:L8),([]:L8),[],([]:L8),()),(i:Int),false,()))
   else
    (bif (↑(s.getD (i:Int).toNat 0).toNat:Int) !=(32:Int) then
     (gd [decide ((0:Int)<=(i:Int)),decide ((i:Int)<(↑s.length:Int))] (some ((),(List.take (i:Int).toNat s,([]:L8),([]:L8),[],([]:L8),()),(i:Int),false,())))
    else
     (gd [decide (inK IntKind.i64 ((i:Int)+(1:Int))),decide ((0:Int)<=(i:Int)),decide ((i:Int)<(↑s.length:Int))] (bif (i:Int)+(1:Int)==(↑s.length:Int) then
      (some ((),(List.take (i:Int).toNat s,([]:L8),([]:L8),[],([]:L8),()),(i:Int)+(1:Int),false,()))
     else
      (bif (↑(s.getD ((i:Int)+(1:Int)).toNat 0).toNat:Int) !=(47:Int) then
       (gd [decide ((0:Int)<=(i:Int)+(1:Int)),decide ((i:Int)+(1:Int)<(↑s.length:Int))] (some ((),(List.take (i:Int).toNat s,([]:L8),([]:L8),[],([]:L8),()),(i:Int)+(1:Int),false,())))
      else
       (gd [decide ((0:Int)<=(i:Int)+(1:Int)),decide ((i:Int)+(1:Int)<(↑s.length:Int))] (hfirst_1 n (s) ([]) ([]) ([]) ([]) ((0:Int)) (false) (List.take (i:Int).toNat s) (([]:L8)) (([]:L8)) (([]:L8)) ((i:Int)+(1:Int)) ((i:Int)+(1:Int)) (Int.negSucc 0)))))))))=some z/\Spec1 (a1r 0 0 cs [] [] [] (c::u)) s.length z:=by
 have hl:s.length=i+u.length+1:=by rw[he,hi];simp only[List.length_append,List.length_cons];omega
 have hg:s.getD i 0=c:=by rw[he,hi];exact getD_mid _ _ _ _
 have ht:List.take i s=cs:=by rw[he,hi,List.take_left]
 rw[ceF (by omega)];by_cases h0:i=0
 ·rw[ceT (by omega),a1r_bad (by unfold a1;rw[if_pos rfl,if_neg hc,if_neg (by omega)])];exact⟨_,rfl,by show(i:Int)≠_;omega,rfl⟩
 rw[ceF (by omega),show(i:Int).toNat=i from rfl,hg];by_cases h32:c.toNat=32
 ·rw[cnF (by omega),gdT (inK_i64.2 ⟨by omega,by omega⟩),gdT (by omega),gdT (by omega),gN];rw[a1r_ok (st':=1) (at2:=0) (tx':=[]) (m':=cs) (p':=[]) (q':=[]) (by unfold a1;rw[if_pos rfl,if_neg hc,if_pos ⟨h32,by omega⟩])];cases u with
  |nil=>
   simp only[List.length_nil] at hl;rw[ceT (by omega)];exact⟨_,rfl,by show(i:Int)+1=_;omega,rfl,λh=>by omega⟩
  |cons d u=>
   simp only[List.length_cons] at hl hn;have hg2:s.getD (i+1) 0=d:=by
    rw[he,show cs++c::d::u=(cs++[c])++d::u by simp,show i+1=(cs++[c]).length by simp[hi]];exact getD_mid _ _ _ _
   rw[ceF (by omega),show((i:Int)+1).toNat=i+1 from rfl,hg2];by_cases h47:d.toNat=47
   ·rw[cnF (by omega),gdT (by omega),gdT (by omega),gN,ht];have:=first_1 s cs (cs++[c]) hs (d::u) 1 [] [] (i+1) n (-1) (.inl ⟨rfl,rfl,rfl,by rw[he];simp,by simp[hi]⟩) (λc' r' e _ _=>by cases e;exact h47) (by simp only[List.length_cons];omega);rw[show(((cs++[c]).length:Nat):Int)=(i:Int)+1 by simp[hi],show((i+1:Nat):Int)=(i:Int)+1 from rfl] at this
    exact this
   ·rw[cnT (by omega),gdT (by omega),gdT (by omega),gN];rw[a1r_bad (by unfold a1;rw[if_neg (by decide),if_pos rfl,if_pos ⟨rfl,h47⟩])];exact⟨_,rfl,by show(i:Int)+1≠_;omega,rfl⟩
 ·rw[cnT (by omega),gdT (by omega),gdT (by omega),gN];rw[a1r_bad (by unfold a1;rw[if_pos rfl,if_neg hc,if_neg (λh=>h32 h.1)])];exact⟨_,rfl,by show(i:Int)≠_;omega,rfl⟩
theorem first_0 (s:L8) (hs:s.length<=1000000):∀(u cs:L8) (n:Nat),s=cs++u->cs.length<=10->u.length<n->
  ∃z,hfirst_0 n s [] [] [] [] 0 false [] [] [] [] (cs.length:Int)=some z/\Spec1 (a1r 0 0 cs [] [] [] u) s.length z:=by
 intro u
 induction u with
 |nil=>
  intro cs n he h10 hn;obtain⟨n,rfl⟩:∃k,n=k+1:=⟨n-1,by omega⟩
  have hl:s.length=cs.length:=by rw[he,List.append_nil]
  rw[efirst_0,cdF (by omega),gdT (by omega),gdT (by omega),gN,ceT (by omega)];exact⟨_,rfl,by show(cs.length:Int)=_;omega,rfl,λh=>by omega⟩
 |cons c u ih=>
  intro cs n he h10 hn;obtain⟨n,rfl⟩:∃k,n=k+1:=⟨n-1,by omega⟩
  simp only[List.length_cons] at hn;have hl:s.length=cs.length+u.length+1:=by rw[he];simp only[List.length_append,List.length_cons];omega
  have hg:s.getD cs.length 0=c:=by rw[he];exact getD_mid _ _ _ _
  have t0:=λhc=>tail0 s cs hs c u cs.length n he rfl hc (by omega)
  rw[efirst_0,cdT (by omega)];rw[show(cs.length:Int).toNat=cs.length from rfl] at t0⊢;rw[hg] at t0⊢;by_cases h1:cs.length<10
  ·rw[cdT (by omega)];by_cases h2:65<=c.toNat
   ·rw[cdT (by omega)];by_cases h3:c.toNat<=90
    ·rw[cdT (by omega),gdT (inK_i64.2 ⟨by omega,by omega⟩),gdT (by omega),gdT (by omega),gdT (by omega),gdT (by omega),gN];have:=ih (cs++[c]) n (by rw[he,List.append_assoc];rfl) (by simp only[List.length_append,List.length_singleton];omega) (by omega);simp only[List.length_append,List.length_singleton,Int.natCast_add,Int.natCast_one] at this
     rw[a1r_ok (st':=0) (at2:=0) (tx':=cs++[c]) (m':=[]) (p':=[]) (q':=[]) (by unfold a1;rw[if_pos rfl,if_pos ⟨isCap_iff.2 ⟨h2,h3⟩,h1⟩])];exact this
    ·rw[cdF (by omega),gdT (by omega),gdT (by omega),gdT (by omega),gdT (by omega),gdT (by omega),gdT (by omega),gN];exact t0 (λh=>by have:=isCap_iff.1 h.1;omega)
   ·rw[cdF (by omega),gdT (by omega),gdT (by omega),gdT (by omega),gdT (by omega),gN];exact t0 (λh=>by have:=isCap_iff.1 h.1;omega)
  ·rw[cdF (by omega),gdT (by omega),gdT (by omega),gN];exact t0 (λh=>h1 h.2)
theorem first_n (s:L8) (hs:s.length<=1000000):∃z,ofirst () (s,())=some z/\Spec1 (a1r 0 0 [] [] [] [] s) s.length z:=by
 rw[ofirst_g,efirst_g];exact first_0 s hs s [] heads0 rfl (by simp) (by unfold heads0;omega)
open Go Go.Eng Nice
set_option maxRecDepth 1000000
theorem trimR_snc (w:L8) (c:UInt8):trimR (w++[c])=if isSp c=true then trimR w else w++[c]:=by
 unfold trimR;rw[List.reverse_append];show(List.dropWhile isSp (c::w.reverse)).reverse=_;by_cases h:isSp c=true
 ·rw[if_pos h,List.dropWhile_cons_of_pos h]
 ·rw[if_neg h,List.dropWhile_cons_of_neg h];simp
theorem trimR_cons (c:UInt8) (r:L8):trimR (c::r)=if trimR r=[] then(if isSp c=true then [] else [c]) else c::trimR r:=by
 unfold trimR;rw[List.reverse_cons,List.dropWhile_append];by_cases h:List.dropWhile isSp r.reverse=[]
 ·rw[h];by_cases hc:isSp c=true
  ·simp[hc]
  ·simp[hc]
 ·have h2:(List.dropWhile isSp r.reverse).isEmpty=false:=by simpa using h
  rw[h2];simp[h]
theorem trimL_cons (c:UInt8) (r:L8):trimL (c::r)=if isSp c=true then trimL r else c::r:=by
 unfold trimL;by_cases h:isSp c=true
 ·rw[if_pos h,List.dropWhile_cons_of_pos h]
 ·rw[if_neg h,List.dropWhile_cons_of_neg h]
theorem trim_both:∀v:L8,trimR (trimL v)=trimL (trimR v)
 |[]=>rfl
 |c::r=>by
  have ih:=trim_both r;rw[trimL_cons,trimR_cons];by_cases h:isSp c=true
  ·rw[if_pos h,if_pos h,ih];by_cases h0:trimR r=[]
   ·rw[if_pos h0,h0]
   ·rw[if_neg h0,trimL_cons,if_pos h]
  ·rw[if_neg h,if_neg h,trimR_cons,if_neg h];by_cases h0:trimR r=[]
   ·rw[if_pos h0,trimL_cons,if_neg h]
   ·rw[if_neg h0,trimL_cons,if_neg h]
theorem isSp_iff {c:UInt8}:isSp c=true↔c.toNat=32\/c.toNat=9:=by
 unfold isSp;rw[Bool.or_eq_true,beq_iff_eq,beq_iff_eq];constructor
 ·rintro(rfl|rfl)
  ·exact .inl rfl
  ·exact .inr rfl
 ·rintro(h|h)
  ·exact .inl (UInt8.toNat.inj h)
  ·exact .inr (UInt8.toNat.inj h)
def a2r:Int->L8->L8->L8->Option (Int×L8×L8)
 |st,nm,tx,[]=>some (st,nm,tx)
 |st,nm,tx,c::r=>match a2 st nm tx c with
  |none=>none
  |some (st',nm',tx')=>a2r st' nm' tx' r
def Spec2 (o:Option (Int×L8×L8)) (L:Int) (z:HeadD×Int×Bool×Unit):Prop:=match o with
 |none=>z.2.1≠L/\z.2.2.1=false
 |some (st,nm,tx)=>z.2.1=L/\z.2.2.1=decide (st=6)/\(st=6->z.1=(nm,trimL (trimR tx),()))
theorem a2r_bad {st:Int} {nm tx:L8} {c:UInt8} {r:L8} (h:a2 st nm tx c=none):a2r st nm tx (c::r)=none:=by simp only[a2r,h]
theorem a2r_ok {st:Int} {nm tx:L8} {c:UInt8} {r:L8} {st':Int} {nm' tx':L8} (h:a2 st nm tx c=some (st',nm',tx')):a2r st nm tx (c::r)=a2r st' nm' tx' r:=by simp only[a2r,h]
theorem head_3 (s nm B:L8) (hs:s.length<=1000000) (i:Int):∀(k:Nat) (w u:L8) (n:Nat),w.length=k->s=B++(w++u)->w.length<n->
  hhead_3 n s [] [] 0 false i nm [] (B.length:Int) ((B.length+w.length:Nat):Int)=some ((nm,trimR w,()),i,decide (i=(s.length:Int)),()):=by
 intro k
 induction k with
 |zero=>
  intro w u n hk he hn;obtain⟨n,rfl⟩:∃k,n=k+1:=⟨n-1,by omega⟩
  have hw:w=[]:=List.length_eq_zero_iff.1 hk;subst hw;have hl:s.length=B.length+u.length:=by rw[he];simp only[List.length_append,List.length_nil];omega
  have hf:List.drop B.length (List.take (B.length+0) s)=[]:=by rw[he];exact slice_mid B [] u
  rw[ehead_3,cdF (by simp),gdT (by omega),gdT (by omega),gdT (by simp only[List.length_nil];omega),gN];rw[show(B.length:Int).toNat=B.length from rfl,show((B.length+([]:L8).length:Nat):Int).toNat=B.length+0 from rfl,hf];by_cases h:i=(s.length:Int)
  ·rw[ceT h,decide_eq_true h];rfl
  ·rw[ceF h,decide_eq_false h];rfl
 |succ k ih=>
  intro w u n hk he hn;obtain⟨n,rfl⟩:∃k,n=k+1:=⟨n-1,by omega⟩
  have hl:s.length=B.length+w.length+u.length:=by rw[he];simp only[List.length_append];omega
  have hf:List.drop B.length (List.take (B.length+w.length) s)=w:=by rw[he];exact slice_mid B w u
  rcases List.eq_nil_or_concat w with rfl|⟨w',c,rfl⟩
  ·simp at hk
  simp only[List.concat_eq_append] at hk he hl hf hn⊢;have hw':(w'++[c]).length=w'.length+1:=by simp
  have hg:s.getD (B.length+w'.length) 0=c:=by
   rw[he,show B++(w'++[c]++u)=(B++w')++c::u by simp,show B.length+w'.length=(B++w').length by simp];exact getD_mid _ _ _ _
  rw[ehead_3,cdT (by omega)];rw[show((B.length+(w'++[c]).length:Nat):Int)-1=((B.length+w'.length:Nat):Int) by omega];rw[show((B.length+w'.length:Nat):Int).toNat=B.length+w'.length from rfl,hg];have ih':=ih w' (c::u) n (by omega) (by rw[he];simp) (by omega);rw[trimR_snc];by_cases h32:c.toNat=32
  ·rw[if_pos (isSp_iff.2 (.inl h32)),ceT (by omega),gdT (inK_i64.2 ⟨by omega,by omega⟩),gdT (by omega),gdT (by omega),gdT (inK_i64.2 ⟨by omega,by omega⟩),gN];exact ih'
  ·rw[ceF (by omega)];by_cases h9:c.toNat=9
   ·rw[if_pos (isSp_iff.2 (.inr h9)),ceT (by omega),gdT (inK_i64.2 ⟨by omega,by omega⟩),gdT (by omega),gdT (by omega),gdT (inK_i64.2 ⟨by omega,by omega⟩),gdT (by omega),gdT (by omega),gdT (inK_i64.2 ⟨by omega,by omega⟩),gN];exact ih'
   ·rw[if_neg (λh=>by rcases isSp_iff.1 h with h|h;exact h32 h;exact h9 h),ceF (by omega),gdT (by omega),gdT (by omega),gdT (by omega),gdT (by omega),gdT (by omega),gdT (inK_i64.2 ⟨by omega,by omega⟩),gdT (by omega),gdT (by omega),gdT (inK_i64.2 ⟨by omega,by omega⟩),gN];rw[show(B.length:Int).toNat=B.length from rfl,show((B.length+(w'++[c]).length:Nat):Int).toNat=B.length+(w'++[c]).length from rfl,hf]
    by_cases h:i=(s.length:Int)
    ·rw[ceT h,decide_eq_true h]
    ·rw[ceF h,decide_eq_false h]
theorem head_2 (s nm:L8) (hs:s.length<=1000000) (i:Int):∀(w B u:L8) (n:Nat),s=B++(w++u)->w.length+s.length+1<n->
  hhead_2 n s [] [] 0 false i nm [] (B.length:Int) ((B.length+w.length:Nat):Int)=some ((nm,trimR (trimL w),()),i,decide (i=(s.length:Int)),()):=by
 intro w
 induction w with
 |nil=>
  intro B u n he hn;obtain⟨n,rfl⟩:∃k,n=k+1:=⟨n-1,by omega⟩
  rw[ehead_2,cdF (by simp)];exact head_3 s nm B hs i 0 [] u n rfl he (by simp only[List.length_nil];omega)
 |cons c w ih=>
  intro B u n he hn;obtain⟨n,rfl⟩:∃k,n=k+1:=⟨n-1,by omega⟩
  simp only[List.length_cons] at hn;have hl:s.length=B.length+w.length+1+u.length:=by rw[he];simp only[List.length_append,List.length_cons];omega
  have hg:s.getD B.length 0=c:=by rw[he];exact getD_mid _ _ _ _
  have ih':=ih (B++[c]) u n (by rw[he];simp) (by omega);rw[show((B++[c]).length:Int)=(B.length:Int)+1 by simp,show(B++[c]).length+w.length=B.length+(c::w).length by(simp;omega)] at ih';have h3:=head_3 s nm B hs i (c::w).length (c::w) u n rfl he (by simp only[List.length_cons];omega);rw[ehead_2,cdT (by simp only[List.length_cons];omega),show(B.length:Int).toNat=B.length from rfl,hg,trimL_cons]
  by_cases h32:c.toNat=32
  ·rw[if_pos (isSp_iff.2 (.inl h32)),ceT (by omega),gdT (inK_i64.2 ⟨by omega,by omega⟩),gdT (by omega),gdT (by omega),gN];exact ih'
  ·rw[ceF (by omega)];by_cases h9:c.toNat=9
   ·rw[if_pos (isSp_iff.2 (.inr h9)),ceT (by omega),gdT (inK_i64.2 ⟨by omega,by omega⟩),gdT (by omega),gdT (by omega),gdT (by omega),gdT (by omega),gN];exact ih'
   ·rw[if_neg (λh=>by rcases isSp_iff.1 h with h|h;exact h32 h;exact h9 h),ceF (by omega),gdT (by omega),gdT (by omega),gdT (by omega),gdT (by omega),gN];exact h3
theorem head_1 (s nm A:L8) (hs:s.length<=1000000):∀(u v:L8) (n:Nat),s=A++(v++u)->u.length+2*s.length+3<n->
  ∃z,hhead_1 n s [] [] 0 false ((A.length+v.length:Nat):Int) nm [] (A.length:Int)=some z/\Spec2 (a2r 6 nm v u) s.length z:=by
 intro u
 induction u with
 |nil=>
  intro v n he hn;obtain⟨n,rfl⟩:∃k,n=k+1:=⟨n-1,by omega⟩
  have hl:s.length=A.length+v.length:=by rw[he];simp only[List.length_append,List.length_nil];omega
  rw[ehead_1,cdF (by omega),head_2 s nm hs _ v A [] n he (by omega)];refine⟨_,rfl,by show((A.length+v.length:Nat):Int)=_;omega,?_,λ_=> ?_⟩
  ·show decide (((A.length+v.length:Nat):Int)=(s.length:Int))=true;exact decide_eq_true (by omega)
  ·rw[trim_both]
 |cons c u ih=>
  intro v n he hn;obtain⟨n,rfl⟩:∃k,n=k+1:=⟨n-1,by omega⟩
  simp only[List.length_cons] at hn;have hl:s.length=A.length+v.length+u.length+1:=by rw[he];simp only[List.length_append,List.length_cons];omega
  have hg:s.getD (A.length+v.length) 0=c:=by
   rw[he,<-List.append_assoc,show A.length+v.length=(A++v).length by simp];exact getD_mid _ _ _ _
  have ih':=ih (v++[c]) n (by rw[he];simp) (by omega);rw[show((A.length+(v++[c]).length:Nat):Int)=((A.length+v.length:Nat):Int)+1 by simp;omega] at ih';have h2:=head_2 s nm hs ((A.length+v.length:Nat):Int) v A (c::u) n he (by omega);have good:(32<=c.toNat/\c.toNat<=126\/c.toNat=9)->a2r 6 nm v (c::u)=a2r 6 nm (v++[c]) u:=λh=>a2r_ok (by unfold a2;rw[if_neg (by decide),if_pos h])
  have bad:¬(32<=c.toNat/\c.toNat<=126\/c.toNat=9)->∃z,hhead_2 n s [] [] 0 false ((A.length+v.length:Nat):Int) nm [] (A.length:Int) ((A.length+v.length:Nat):Int)=some z/\Spec2 (a2r 6 nm v (c::u)) s.length z:=λh=>by
   rw[h2,a2r_bad (by unfold a2;rw[if_neg (by decide),if_neg h])];refine⟨_,rfl,by show((A.length+v.length:Nat):Int)≠_;omega,?_⟩;exact decide_eq_false (by omega)
  rw[ehead_1,cdT (by omega),show((A.length+v.length:Nat):Int).toNat=A.length+v.length from rfl,hg];by_cases h1:32<=c.toNat
  ·rw[cdT (by omega)];by_cases h3:c.toNat<=126
   ·rw[cdT (by omega),gdT (inK_i64.2 ⟨by omega,by omega⟩),gdT (by omega),gdT (by omega),gdT (by omega),gdT (by omega),gN,good (.inl ⟨h1,h3⟩)];exact ih'
   ·rw[cdF (by omega),ceF (by omega),gdT (by omega),gdT (by omega),gdT (by omega),gdT (by omega),gdT (by omega),gdT (by omega),gN];exact bad (by omega)
  ·rw[cdF (by omega)];by_cases h9:c.toNat=9
   ·rw[ceT (by omega),gdT (inK_i64.2 ⟨by omega,by omega⟩),gdT (by omega),gdT (by omega),gdT (by omega),gdT (by omega),gN,good (.inr h9)];exact ih'
   ·rw[ceF (by omega),gdT (by omega),gdT (by omega),gdT (by omega),gdT (by omega),gN];exact bad (by omega)
theorem isTok_is (c:UInt8):isTok c=(isLet c||isDig c||decide (c.toNat=45)):=by
 have e:isDig c=decide (48<=c.toNat/\c.toNat<=57):=by
  cases h:isDig c
  ·exact(decide_eq_false (λh'=>by rw[isDig_iff.2 h'] at h;cases h)).symm
  ·exact(decide_eq_true (isDig_iff.1 h)).symm
 rw[e];unfold isTok isLet;by_cases h1:65<=c.toNat/\c.toNat<=90<;>by_cases h2:97<=c.toNat/\c.toNat<=122<;>by_cases h3:48<=c.toNat/\c.toNat<=57<;>by_cases h4:c.toNat=45<;>simp[h1,h2,h3,h4]
theorem head_0 (s:L8) (hs:s.length<=1000000):∀(u ns:L8) (n:Nat),s=ns++u->u.length+3*s.length+5<n->
  ∃z,hhead_0 n s [] [] 0 false (ns.length:Int)=some z/\Spec2 (a2r 5 [] ns u) s.length z:=by
 intro u
 induction u with
 |nil=>
  intro ns n he hn;obtain⟨n,rfl⟩:∃k,n=k+1:=⟨n-1,by omega⟩
  have hl:s.length=ns.length:=by rw[he,List.append_nil]
  rw[ehead_0,cdF (by omega),gdT (by omega),gdT (by omega),gN,ceT (by omega)];exact⟨_,rfl,by show(ns.length:Int)=_;omega,rfl,λh=>by omega⟩
 |cons c u ih=>
  intro ns n he hn;obtain⟨n,rfl⟩:∃k,n=k+1:=⟨n-1,by omega⟩
  simp only[List.length_cons] at hn;have hc:=c.toNat_lt;have ic:inK .u8 (c.toNat:Int):=inK_u8.2 ⟨by omega,by omega⟩;have hl:s.length=ns.length+u.length+1:=by rw[he];simp only[List.length_append,List.length_cons];omega
  have hg:s.getD ns.length 0=c:=by rw[he];exact getD_mid _ _ _ _
  have ht:List.take ns.length s=ns:=by rw[he,List.take_left]
  have ih':=ih (ns++[c]) n (by rw[he];simp) (by omega);simp only[List.length_append,List.length_singleton,Int.natCast_add,Int.natCast_one] at ih';have good:isTok c=true->a2r 5 [] ns (c::u)=a2r 5 [] (ns++[c]) u:=λh=>a2r_ok (by
   have:c.toNat≠58:=λh58=>by unfold isTok at h;rw[decide_eq_true_iff] at h;omega
   unfold a2;rw[if_pos rfl,if_neg (λh=>this h.1),if_pos h])
  rw[isTok_is] at good;rw[ehead_0,cdT (by omega),show(ns.length:Int).toNat=ns.length from rfl,hg];simp only[Int.toNat_natCast,UInt8.ofNat_toNat];cases h1:isLet c
  ·rw[cF];cases h2:isDig c
   ·rw[cF];by_cases h45:c.toNat=45
    ·rw[ceT (by omega),gdT (inK_i64.2 ⟨by omega,by omega⟩),gdT (by omega),gdT (by omega),gdT ic,gdT (by omega),gdT (by omega),gdT ic,gdT (by omega),gdT (by omega),gN,good (by rw[h1,h2,decide_eq_true h45];rfl)];exact ih'
    ·have hnt:isTok c=false:=by rw[isTok_is,h1,h2,decide_eq_false h45];rfl
     rw[ceF (by omega),gdT (by omega),gdT (by omega),gdT (by omega),gdT (by omega),gdT ic,gdT (by omega),gdT (by omega),gdT ic,gdT (by omega),gdT (by omega),gN,ceF (by omega),ht];by_cases h0:ns.length=0
     ·rw[ceT (by omega),a2r_bad (by unfold a2;rw[if_pos rfl,if_neg (by omega),if_neg (by rw[hnt];decide)])];exact⟨_,rfl,by show(ns.length:Int)≠_;omega,rfl⟩
     ·rw[ceF (by omega)];by_cases h58:c.toNat=58
      ·rw[cnF (by omega),gdT (inK_i64.2 ⟨by omega,by omega⟩),gdT (by omega),gdT (by omega),gN];have:=head_1 s ns (ns++[c]) hs u [] n (by rw[he];simp) (by omega);simp only[List.length_append,List.length_singleton,List.length_nil,Nat.add_zero,Int.natCast_add,Int.natCast_one] at this;rw[a2r_ok (st':=6) (nm':=ns) (tx':=[]) (by unfold a2;rw[if_pos rfl,if_pos ⟨h58,by omega⟩])]
       exact this
      ·rw[cnT (by omega),gdT (by omega),gdT (by omega),gN,a2r_bad (by unfold a2;rw[if_pos rfl,if_neg (λh=>h58 h.1),if_neg (by rw[hnt];decide)])];exact⟨_,rfl,by show(ns.length:Int)≠_;omega,rfl⟩
   ·rw[cT,gdT (inK_i64.2 ⟨by omega,by omega⟩),gdT ic,gdT (by omega),gdT (by omega),gdT ic,gdT (by omega),gdT (by omega),gN,good (by rw[h1,h2];rfl)];exact ih'
  ·rw[cT,gdT (inK_i64.2 ⟨by omega,by omega⟩),gdT ic,gdT (by omega),gdT (by omega),gN,good (by rw[h1];rfl)];exact ih'
theorem head_n (s:L8) (hs:s.length<=1000000):∃z,ohead (s,())=some z/\Spec2 (a2r 5 [] [] s) s.length z:=by
 rw[ohead_g,ehead_g];exact head_0 s hs s [] heads0 rfl (by unfold heads0;omega)
open Go Go.Eng Nice
set_option maxRecDepth 1000000
theorem a1r_app:∀(t:L8) (c:UInt8) (st at':Int) (tx m p q:L8),a1r st at' tx m p q (t++[c])=match a1r st at' tx m p q t with
  |none=>none
  |some (st',at2,tx',m',p',q')=>a1 st' at2 tx' m' p' q' c
 |[],c,st,at',tx,m,p,q=>by
  show a1r st at' tx m p q [c]=a1 st at' tx m p q c;unfold a1r;cases a1 st at' tx m p q c with
  |none=>rfl
  |some x=>rfl
 |d::t,c,st,at',tx,m,p,q=>by
  show a1r st at' tx m p q (d::(t++[c]))=_;unfold a1r;cases a1 st at' tx m p q d with
  |none=>rfl
  |some x=>exact a1r_app t c _ _ _ _ _ _
theorem a2r_app:∀(t:L8) (c:UInt8) (st:Int) (nm tx:L8),a2r st nm tx (t++[c])=match a2r st nm tx t with
  |none=>none
  |some (st',nm',tx')=>a2 st' nm' tx' c
 |[],c,st,nm,tx=>by
  show a2r st nm tx [c]=a2 st nm tx c;unfold a2r;cases a2 st nm tx c with
  |none=>rfl
  |some x=>rfl
 |d::t,c,st,nm,tx=>by
  show a2r st nm tx (d::(t++[c]))=_;unfold a2r;cases a2 st nm tx d with
  |none=>rfl
  |some x=>exact a2r_app t c _ _ _
def SpecL1 (s:L8) (o:Out1) (z:L8×Int×Int×Unit):Prop:=match o with
 | .more=>z=([],0,0,())
 | .bad e=>z=([],0,e,())/\e≠ -1
 | .whole m p q r=>∃t d1 d2 tx,s=t++d1::d2::r/\z=(t,(t.length:Int)+2, -1,())/\a1r 0 0 [] [] [] [] t=some (3,8,tx,m,p,q)
def SpecL2 (s:L8) (o:Out2) (z:L8×Int×Int×Unit):Prop:=match o with
 | .more=>z=([],0,0,())
 | .bad e=>z=([],0,e,())/\e≠ -1
 | .head h r=>∃t d1 d2 nm tx,s=t++d1::d2::r/\z=(t,(t.length:Int)+2, -1,())/\t≠[]/\a2r 5 [] [] t=some (6,nm,tx)/\h=(nm,trimL (trimR tx),())
 | .fin r=>∃d1 d2,s=d1::d2::r/\z=([],2, -1,())
theorem line_1 (s:L8) (hs:s.length<=1000000) (k:Int):∀(u B:L8) (n:Nat) (st at':Int) (tx m p q:L8),s=B++u->a1r 0 0 [] [] [] [] B=some (st,at',tx,m,p,q)->u.length<n->
  ∃z,hline_0 n s true k [] 0 0 200 414 (B.length:Int)=some z/\SpecL1 s (r1 st at' tx m p q B.length u) z:=by
 intro u
 induction u with
 |nil=>
  intro B n st at' tx m p q he ha hn;obtain⟨n,rfl⟩:∃k,n=k+1:=⟨n-1,by omega⟩
  have hl:s.length=B.length:=by rw[he,List.append_nil]
  rw[eline_0,cdF (by omega)];exact⟨_,rfl,rfl⟩
 |cons c u ih=>
  intro B n st at' tx m p q he ha hn;obtain⟨n,rfl⟩:∃k,n=k+1:=⟨n-1,by omega⟩
  simp only[List.length_cons] at hn;have hl:s.length=B.length+u.length+1:=by rw[he];simp only[List.length_append,List.length_cons];omega
  have hg:s.getD B.length 0=c:=by rw[he];exact getD_mid _ _ _ _
  have ht:List.take B.length s=B:=by rw[he,List.take_left]
  have ht2:List.take (B.length+1) s=B++[c]:=by
   rw[he,show B++c::u=(B++[c])++u by simp,show B.length+1=(B++[c]).length by simp,List.take_left]
  rw[eline_0,cdT (by omega),gdT (by omega),gdT (by omega),gN];rw[show(B.length:Int).toNat=B.length from rfl,show((B.length:Int)+1).toNat=B.length+1 from rfl,hg,ht,ht2];unfold r1;by_cases hc:c.toNat=13
  ·rw[ceT (by omega),if_pos hc,gdT (by omega),gdT (by omega),gN];obtain⟨z,hz,sz⟩:=first_n B (by omega);obtain⟨hP,hN⟩:=first_hid hz;rw[ha] at sz;obtain⟨-,hw, -⟩:=sz;have same:∀{α:Type} (b:Bool) (x:α),(bif b then x else x)=x:=λb x=>by cases b<;>rfl
   simp only[cT];rw[same,hN,hw];by_cases h38:st=3/\at'=8
   ·rw[decide_eq_true h38,cT,if_pos h38,gdB hP,gN];cases u with
    |nil=>
     simp only[List.length_nil] at hl;rw[ceT (by omega),gdT (inK_i64.2 ⟨by omega,by omega⟩),gN];exact⟨_,rfl,rfl⟩
    |cons d u=>
     simp only[List.length_cons] at hl;have hg2:s.getD (B.length+1) 0=d:=by
      rw[he,show B++c::d::u=(B++[c])++d::u by simp,show B.length+1=(B++[c]).length by simp];exact getD_mid _ _ _ _
     rw[ceF (by omega),gdT (inK_i64.2 ⟨by omega,by omega⟩),gN,hg2];by_cases h10:d.toNat=10
     ·rw[cnF (by omega),gdT (inK_i64.2 ⟨by omega,by omega⟩),gdT (by omega),gdT (by omega),gdT (inK_i64.2 ⟨by omega,by omega⟩),gN];simp only[if_pos h10];exact⟨_,rfl,B,c,d,tx,he,rfl,by rw[ha,h38.1,h38.2]⟩
     ·rw[cnT (by omega),gdT (by omega),gdT (by omega),gdT (inK_i64.2 ⟨by omega,by omega⟩),gN];simp only[if_neg h10];exact⟨_,rfl,rfl,by decide⟩
   ·rw[decide_eq_false h38,cF,if_neg h38,gdB hP,gN];exact⟨_,rfl,rfl,by decide⟩
  ·rw[ceF (by omega),if_neg hc,gdT (by omega),gdT (by omega),gN];by_cases h200:200<=B.length
   ·rw[cdT (by omega),if_pos h200];exact⟨_,rfl,rfl,by decide⟩
   ·rw[cdF (by omega),if_neg h200];simp only[Bool.not_true,cT,cF];obtain⟨z,hz,sz⟩:=first_n (B++[c]) (by simp only[List.length_append,List.length_singleton];omega);obtain⟨hP,hN⟩:=first_hid hz;rw[a1r_app,ha] at sz;simp only at sz;have same:∀{α:Type} (b:Bool) (x:α),(bif b then x else x)=x:=λb x=>by cases b<;>rfl
    rw[same,gdB hP,gdT (by omega),gdT (by omega),gdT (inK_i64.2 ⟨by omega,by omega⟩),gN,hN];cases hm:a1 st at' tx m p q c with
    |none=>
     rw[hm] at sz;rw[cnT (by have:=sz.1;simp only[List.length_append,List.length_singleton,Int.natCast_add,Int.natCast_one] at this;exact this),gdT (inK_i64.2 ⟨by omega,by omega⟩),gN];exact⟨_,rfl,rfl,by decide⟩
    |some x=>
     obtain⟨st',at2,tx',m',p',q'⟩:=x;rw[hm] at sz;rw[cnF (by have:=sz.1;simp only[List.length_append,List.length_singleton,Int.natCast_add,Int.natCast_one] at this;exact this),gdT (inK_i64.2 ⟨by omega,by omega⟩),gdT (inK_i64.2 ⟨by omega,by omega⟩),gN];have ih':=ih (B++[c]) n st' at2 tx' m' p' q' (by rw[he];simp) (by rw[a1r_app,ha];exact hm) (by omega)
     simp only[List.length_append,List.length_singleton,Int.natCast_add,Int.natCast_one] at ih';exact ih'
theorem line_2 (s:L8) (hs:s.length<=1000000) (nh:Nat):∀(u B:L8) (n:Nat) (st:Int) (nm tx:L8),s=B++u->a2r 5 [] [] B=some (st,nm,tx)->(st=5\/st=6)->(st=5->B.length=tx.length)->(st=6->B≠[])->u.length<n->
  ∃z,hline_0 n s false (nh:Int) [] 0 0 120 431 (B.length:Int)=some z/\SpecL2 s (r2 nh st nm tx B.length u) z:=by
 intro u
 induction u with
 |nil=>
  intro B n st nm tx he ha h56 h5 h6 hn;obtain⟨n,rfl⟩:∃k,n=k+1:=⟨n-1,by omega⟩
  have hl:s.length=B.length:=by rw[he,List.append_nil]
  rw[eline_0,cdF (by omega)];exact⟨_,rfl,rfl⟩
 |cons c u ih=>
  intro B n st nm tx he ha h56 h5 h6 hn;obtain⟨n,rfl⟩:∃k,n=k+1:=⟨n-1,by omega⟩
  simp only[List.length_cons] at hn;have hl:s.length=B.length+u.length+1:=by rw[he];simp only[List.length_append,List.length_cons];omega
  have hg:s.getD B.length 0=c:=by rw[he];exact getD_mid _ _ _ _
  have ht:List.take B.length s=B:=by rw[he,List.take_left]
  have ht2:List.take (B.length+1) s=B++[c]:=by
   rw[he,show B++c::u=(B++[c])++u by simp,show B.length+1=(B++[c]).length by simp,List.take_left]
  rw[eline_0,cdT (by omega),gdT (by omega),gdT (by omega),gN];rw[show(B.length:Int).toNat=B.length from rfl,show((B.length:Int)+1).toNat=B.length+1 from rfl,hg,ht,ht2];unfold r2;have same:∀{α:Type} (b:Bool) (x:α),(bif b then x else x)=x:=λb x=>by cases b<;>rfl
  by_cases hc:c.toNat=13
  ·rw[ceT (by omega),if_pos hc,gdT (by omega),gdT (by omega),gN];have hg2:∀d r,u=d::r->s.getD (B.length+1) 0=d:=λd r e=>by
    rw[he,e,show B++c::d::r=(B++[c])++d::r by simp,show B.length+1=(B++[c]).length by simp];exact getD_mid _ _ _ _
   by_cases hB:B=[]
   ·subst hB;simp only[List.length_nil] at hl hg2 h5;have e5:st=5:=by
     rcases h56 with h|h
     ·exact h
     ·exact absurd rfl (h6 h)
    rw[show(([]:L8)==[])=true from rfl];simp only[Bool.not_true,Bool.not_false,cT,cF];rw[if_pos e5,if_pos (show([]:L8).length=0 from rfl)];simp only[List.length_nil,Int.natCast_zero];cases u with
    |nil=>
     simp only[List.length_nil] at hl;rw[ceT (by omega),gdT (inK_i64.2 ⟨by omega,by omega⟩),gN];exact⟨_,rfl,rfl⟩
    |cons d u=>
     simp only[List.length_cons] at hl;rw[ceF (by omega),gdT (inK_i64.2 ⟨by omega,by omega⟩),gN,hg2 d u rfl];by_cases h10:d.toNat=10
     ·rw[cnF (by omega),gdT (inK_i64.2 ⟨by omega,by omega⟩),gdT (by omega),gdT (by omega),gdT (inK_i64.2 ⟨by omega,by omega⟩),gN];simp only[if_pos h10];exact⟨_,rfl,c,d,he,rfl⟩
     ·rw[cnT (by omega),gdT (by omega),gdT (by omega),gdT (inK_i64.2 ⟨by omega,by omega⟩),gN];simp only[if_neg h10];exact⟨_,rfl,rfl,by decide⟩
   ·obtain⟨z,hz,sz⟩:=head_n B (by omega);obtain⟨hP,hN⟩:=head_hid hz;rw[ha] at sz;obtain⟨-,hw, -⟩:=sz;have hb:(B==[])=false:=by simpa using hB
    have hpos:=List.length_pos_iff.2 hB;rw[hb];simp only[Bool.not_false,cT,cF];rw[hN,hw];by_cases e6:st=6
    ·rw[decide_eq_true e6,cT,if_neg (by omega),gdB hP,gN];cases u with
     |nil=>
      simp only[List.length_nil] at hl;rw[ceT (by omega),gdT (inK_i64.2 ⟨by omega,by omega⟩),gN];exact⟨_,rfl,rfl⟩
     |cons d u=>
      simp only[List.length_cons] at hl;rw[ceF (by omega),gdT (inK_i64.2 ⟨by omega,by omega⟩),gN,hg2 d u rfl];by_cases h10:d.toNat=10
      ·rw[cnF (by omega),gdT (inK_i64.2 ⟨by omega,by omega⟩),gdT (by omega),gdT (by omega),gdT (inK_i64.2 ⟨by omega,by omega⟩),gN];simp only[if_pos h10];exact⟨_,rfl,B,c,d,nm,tx,he,rfl,hB,by rw[ha,e6],rfl⟩
      ·rw[cnT (by omega),gdT (by omega),gdT (by omega),gdT (inK_i64.2 ⟨by omega,by omega⟩),gN];simp only[if_neg h10];exact⟨_,rfl,rfl,by decide⟩
    ·rw[decide_eq_false e6,cF,if_pos (by omega),if_neg (by omega),gdB hP,gN];exact⟨_,rfl,rfl,by decide⟩
  ·rw[ceF (by omega),if_neg hc,gdT (by omega),gdT (by omega),gN];by_cases h120:120<=B.length
   ·rw[cdT (by omega),if_pos h120];exact⟨_,rfl,rfl,by decide⟩
   ·rw[cdF (by omega),if_neg h120];simp only[Bool.not_false,cT,cF];obtain⟨z,hz,sz⟩:=head_n (B++[c]) (by simp only[List.length_append,List.length_singleton];omega);obtain⟨hP,hN⟩:=head_hid hz;rw[a2r_app,ha] at sz;simp only at sz;have go:¬(B.length=0/\10<=nh)->∃z,(gd [headP (B++[c],()),decide ((0:Int)<=(B.length:Int)+1),decide ((B.length:Int)+1<=(s.length:Int)),decide (inK IntKind.i64 ((B.length:Int)+1))] (bif (headN (B++[c],())).2.1 !=(B.length:Int)+1 then gd [decide (inK IntKind.i64 ((B.length:Int)+1))] (some (([]:L8),(0:Int),(400:Int),())) else gd [decide (inK IntKind.i64 ((B.length:Int)+1)),decide (inK IntKind.i64 ((B.length:Int)+1))] (hline_0 n s false (nh:Int) [] 0 0 120 431 ((B.length:Int)+1))))=some z/\
      SpecL2 s (match a2 st nm tx c with|none=>.bad 400|some (st',nm',tx')=>r2 nh st' nm' tx' (B.length+1) u) z:=by
     intro hno;rw[gdB hP,gdT (by omega),gdT (by omega),gdT (inK_i64.2 ⟨by omega,by omega⟩),gN,hN];cases hm:a2 st nm tx c with
     |none=>
      rw[hm] at sz;rw[cnT (by have:=sz.1;simp only[List.length_append,List.length_singleton,Int.natCast_add,Int.natCast_one] at this;exact this),gdT (inK_i64.2 ⟨by omega,by omega⟩),gN];exact⟨_,rfl,rfl,by decide⟩
     |some x=>
      obtain⟨st',nm',tx'⟩:=x;rw[hm] at sz;rw[cnF (by have:=sz.1;simp only[List.length_append,List.length_singleton,Int.natCast_add,Int.natCast_one] at this;exact this),gdT (inK_i64.2 ⟨by omega,by omega⟩),gdT (inK_i64.2 ⟨by omega,by omega⟩),gN];have ji:=a2_inv hm h56;have ih':=ih (B++[c]) n st' nm' tx' (by rw[he];simp) (by rw[a2r_app,ha];exact hm) (by omega) (λh=>by have:=h5;simp only[List.length_append,List.length_singleton];omega) (λ_=>by simp) (by omega)
      simp only[List.length_append,List.length_singleton,Int.natCast_add,Int.natCast_one] at ih';exact ih'
    by_cases h0:B.length=0
    ·rw[ceT (by omega)];by_cases h10:10<=nh
     ·rw[cdT (by omega),if_pos ⟨h0,h10⟩];exact⟨_,rfl,rfl,by decide⟩
     ·rw[cdF (by omega),if_neg (λh=>h10 h.2),same];exact go (λh=>h10 h.2)
    ·rw[ceF (by omega),if_neg (λh=>h0 h.1),same];exact go (λh=>h0 h.1)
theorem line_n1 (s:L8) (hs:s.length<=1000000) (k:Int):∃z,oline (s,true,k,())=some z/\SpecL1 s (r1 0 0 [] [] [] [] 0 s) z:=by
 rw[oline_g,eline_g,cT];exact line_1 s hs k s [] heads0 0 0 [] [] [] [] rfl rfl (by unfold heads0;omega)
theorem line_n2 (s:L8) (hs:s.length<=1000000) (nh:Nat):∃z,oline (s,false,(nh:Int),())=some z/\SpecL2 s (r2 nh 5 [] [] 0 s) z:=by
 rw[oline_g,eline_g,cF];exact line_2 s hs nh s [] heads0 5 [] [] rfl rfl (.inl rfl) (λ_=>rfl) (λh=>by omega) (by unfold heads0;omega)
open Go Go.Eng Nice
set_option maxRecDepth 1000000
theorem a2_len {st:Int} {nm tx:L8} {c:UInt8} {st':Int} {nm' tx':L8} (h:a2 st nm tx c=some (st',nm',tx')):nm'.length+tx'.length<=nm.length+tx.length+1:=by
 unfold a2 at h
 split at h
 ·split at h
  ·simp only[Option.some.injEq,Prod.mk.injEq] at h;obtain⟨-,rfl,rfl⟩:=h;simp only[List.length_nil];omega
  ·split at h
   ·simp only[Option.some.injEq,Prod.mk.injEq] at h;obtain⟨-,rfl,rfl⟩:=h;simp only[List.length_append,List.length_singleton];omega
   ·cases h
 ·split at h
  ·simp only[Option.some.injEq,Prod.mk.injEq] at h;obtain⟨-,rfl,rfl⟩:=h;simp only[List.length_append,List.length_singleton];omega
  ·cases h
theorem a2r_len:∀(t:L8) (st:Int) (nm tx:L8) (st':Int) (nm' tx':L8),a2r st nm tx t=some (st',nm',tx')->nm'.length+tx'.length<=nm.length+tx.length+t.length
 |[],st,nm,tx,st',nm',tx',h=>by
  simp only[a2r,Option.some.injEq,Prod.mk.injEq] at h;obtain⟨-,rfl,rfl⟩:=h;simp
 |c::t,st,nm,tx,st',nm',tx',h=>by
  unfold a2r at h;cases ha:a2 st nm tx c with
  |none=>rw[ha] at h;cases h
  |some x=>
   obtain⟨s1,n1,t1⟩:=x;rw[ha] at h;simp only at h;have i:=a2r_len t s1 n1 t1 st' nm' tx' h;have j:=a2_len ha;simp only[List.length_cons];omega
abbrev emptyR:ReqD:=([],[],[],[],[],())
def SpecO (s:L8) (o:Out3) (z:Unit×ReqD×Int×Int×Unit):Prop:=match o with
 | .more=>z=((),emptyR,0,0,())
 | .bad e=>z=((),emptyR,0,e,())/\e≠ -1
 | .whole x r=>∃k:Nat,z=((),x,(k:Int), -1,())/\k<=s.length/\s.drop k=r
theorem refLenP_ok {hs:List HeadD} (h1:hs.length<=1000000) (h2:∀h,h∈hs->h.1.length<=1000000/\h.2.1.length<=1000000):refLenP hs=true:=by
 unfold refLenP;rw[Bool.and_eq_true];refine⟨decide_eq_true (by omega),List.all_eq_true.2 λh hh=> ?_⟩;have:=h2 h hh;rw[Bool.and_eq_true];exact⟨decide_eq_true (by omega),decide_eq_true (by omega)⟩
theorem refLen_bad (hs:List HeadD):(refLen hs).2≠ -1:=by
 unfold refLen;cases refHeads hs [] 0 with
 |none=>decide
 |some x=>
  obtain⟨v,k⟩:=x;unfold refLenOut;simp only;by_cases h0:k=0
  ·rw[if_pos h0];decide
  rw[if_neg h0];by_cases h1:1<k\/(refNum v 6).2=false
  ·rw[if_pos h1];decide
  rw[if_neg h1];by_cases h2:(refNum v 6).1>300
  ·rw[if_pos h2];show ¬(413:Int)= -1;decide
  ·rw[if_neg h2];show ¬(0:Int)= -1;decide
theorem refLen_small (hs:List HeadD) (h:(refLen hs).2=0):(refLen hs).1<=300:=by
 unfold refLen at h⊢;cases hr:refHeads hs [] 0 with
 |none=>exact show(0:Int)<=300 by decide
 |some x=>
  obtain⟨v,k⟩:=x;rw[hr] at h;unfold refLenOut at h⊢;simp only at h⊢;by_cases h0:k=0
  ·rw[if_pos h0];decide
  rw[if_neg h0] at h⊢;by_cases h1:1<k\/(refNum v 6).2=false
  ·rw[if_pos h1];decide
  rw[if_neg h1] at h⊢;by_cases h2:(refNum v 6).1>300
  ·rw[if_pos h2] at h;exact absurd h (show ¬(413:Int)=0 by decide)
  ·rw[if_neg h2];show(refNum v 6).1<=300;omega
theorem one_l (s:L8) (hs:s.length<=1000000) (m p q:L8):∀(k:Nat) (u C:L8) (n:Nat) (hd:List HeadD),s=C++u->u.length<k->u.length<n->hd.length+u.length<=1000000->(∀h,h∈hd->h.1.length<=1000000/\h.2.1.length<=1000000)->
  ∃z,hone_0 n s [] [] [] [] 0 0 (C.length:Int) m p q hd []=some z/\SpecO s (hdsR k m p q hd u) z:=by
 intro k
 induction k with
 |zero=>intro u C n hd he hk;omega
 |succ k ih=>
  intro u C n hd he hk hn hh hm;obtain⟨n,rfl⟩:∃k,n=k+1:=⟨n-1,by omega⟩
  have hl:s.length=C.length+u.length:=by rw[he,List.length_append]
  have hdr:List.drop C.length s=u:=by rw[he,List.drop_left]
  obtain⟨z,hz,sz⟩:=line_n2 u (by omega) hd.length;obtain⟨hP,hN⟩:=line_hid hz;rw[eone_0,show(C.length:Int).toNat=C.length from rfl,hdr,gdB hP,gdT (by omega),gdT (by omega),gN,hN];unfold hdsR
  revert sz
  cases hr:r2 hd.length 5 [] [] 0 u with
  |more=>
   rintro rfl;dsimp only;rw[cnT (by decide)];exact⟨_,rfl,rfl⟩
  |bad e=>
   rintro⟨rfl,he1⟩;dsimp only;rw[cnT (show e≠Int.negSucc 0 from he1)];exact⟨_,rfl,rfl,he1⟩
  |fin r=>
   rintro⟨d1,d2,hu,rfl⟩;dsimp only;have hul:u.length=r.length+2:=by rw[hu];rfl
   have nn:=refLen_nn hd;rw[cnF (show(-1:Int)=Int.negSucc 0 from rfl),gdT (inK_i64.2 ⟨by omega,by omega⟩),gN,show(([]:L8)==[])=true from rfl,cT,gdB (refLenP_ok (by omega) hm),gN];unfold bodyR;by_cases hb:(refLen hd).2=0
   ·have hsm:=refLen_small hd hb;rw[cnF hb,if_neg (λh=>h hb)];by_cases hlt:(r.length:Int)<(refLen hd).1
    ·rw[cdT (by omega),if_pos hlt,gdT (inK_i64.2 ⟨by omega,by omega⟩),gN];exact⟨_,rfl,rfl⟩
    ·obtain⟨j,hj⟩:=Int.eq_ofNat_of_zero_le nn;rw[cdF (by omega),if_neg hlt,gdT (inK_i64.2 ⟨by omega,by omega⟩),gdT (by omega),gdT (by omega),gdT (by omega),gdT (inK_i64.2 ⟨by omega,by omega⟩),gdT (inK_i64.2 ⟨by omega,by omega⟩),gN];have hjr:j<=r.length:=by omega
     have e1:s=(C++[d1,d2])++(r.take j++r.drop j):=by rw[List.take_append_drop,he,hu];simp
     have e2:(C++[d1,d2]).length=C.length+2:=by simp
     have e3:(r.take j).length=j:=by rw[List.length_take];omega
     refine⟨_,rfl,C.length+2+j,?_,by omega,?_⟩
     ·rw[hj];have hsl:=slice_mid (C++[d1,d2]) (r.take j) (r.drop j);rw[<-e1,e2,e3] at hsl;simp only[Int.toNat_natCast];rw[show((C.length:Int)+2).toNat=C.length+2 from rfl,show((C.length:Int)+2+(j:Int)).toNat=C.length+2+j from rfl,hsl];rfl
     ·rw[hj];show _=List.drop j r;rw[he,hu,show C++d1::d2::r=(C++[d1,d2])++r by simp,<-List.drop_drop,<-e2,List.drop_left]
   ·rw[cnT hb,if_pos hb];exact⟨_,rfl,rfl,refLen_bad hd⟩
  |head h r=>
   rintro⟨t,d1,d2,nm,tx,hu,rfl,ht,ha,rfl⟩;dsimp only;have hul:u.length=t.length+r.length+2:=by rw[hu];simp only[List.length_append,List.length_cons];omega
   have hb:(t==[])=false:=by simpa using ht
   obtain⟨y,hy,sy⟩:=head_n t (by omega);obtain⟨hP2,hN2⟩:=head_hid hy;rw[ha] at sy;obtain⟨-, -,hv⟩:=sy;have hv:=hv rfl;have hlen:=a2r_len t 5 [] [] 6 nm tx ha;simp only[List.length_nil] at hlen;have same:∀{α:Type} (b:Bool) (x:α),(bif b then x else x)=x:=λb x=>by cases b<;>rfl
   rw[cnF (show(-1:Int)=Int.negSucc 0 from rfl),gdT (inK_i64.2 ⟨by omega,by omega⟩),gN,hb,cF,same,gdT (by omega),gdB hP2,gN,hN2,hv];have ih':=ih r (C++t++[d1,d2]) n (hd++[(nm,trimL (trimR tx),())]) (by rw[he,hu];simp) (by omega) (by omega) (by simp only[List.length_append,List.length_singleton];omega)
    (λh hh'=>by
     rcases List.mem_append.1 hh' with h'|h'
     ·exact hm h h'
     ·simp only[List.mem_cons,List.not_mem_nil,or_false] at h';subst h';have a:=trimL_le (trimR tx);have b:=trimR_le tx;simp only;omega)
   rw[show((C++t++[d1,d2]).length:Int)=(C.length:Int)+((t.length:Int)+2) by simp only[List.length_append,List.length_cons,List.length_nil];omega] at ih';exact ih'
theorem one_n (s:L8) (hs:s.length<=1000000):∃z,oone () (s,())=some z/\SpecO s (oneR s) z:=by
 rw[oone_g,eone_g];obtain⟨z,hz,sz⟩:=line_n1 s hs 0;obtain⟨hP,hN⟩:=line_hid hz;rw[gdB hP,gN,hN];unfold oneR
 revert sz
 cases hr:r1 0 0 [] [] [] [] 0 s with
 |more=>
  rintro rfl;dsimp only;rw[cnT (by decide)];exact⟨_,rfl,rfl⟩
 |bad e=>
  rintro⟨rfl,he1⟩;dsimp only;rw[cnT (show e≠Int.negSucc 0 from he1)];exact⟨_,rfl,rfl,he1⟩
 |whole m p q r=>
  rintro⟨t,d1,d2,tx,hu,rfl,ha⟩;dsimp only;have hul:s.length=t.length+r.length+2:=by rw[hu];simp only[List.length_append,List.length_cons];omega
  obtain⟨y,hy,sy⟩:=first_n t (by omega);obtain⟨hP2,hN2⟩:=first_hid hy;rw[ha] at sy;obtain⟨-, -,hv⟩:=sy;have hv:=hv ⟨rfl,rfl⟩;have same:∀{α:Type} (b:Bool) (x:α),(bif b then x else x)=x:=λb x=>by cases b<;>rfl
  rw[cnF (show(-1:Int)=Int.negSucc 0 from rfl),same,gdB hP2,gN,hN2,hv];have:=one_l s hs m p q (r.length+1) r (t++[d1,d2]) heads0 [] (by rw[hu];simp) (by omega) (by unfold heads0;omega) (by simp only[List.length_nil];omega) (λh hh=>by simp at hh);rw[show((t++[d1,d2]).length:Int)=(t.length:Int)+2 by simp] at this
  exact this
theorem rscan_l:∀(k:Nat) (s:L8) (n:Nat) (acc:List ReqD),s.length<k->s.length<n->s.length<=1000000->acc.length+s.length<=1000000->
  hrscan_0 n s 0 false acc=some (acc++(scanR k s).1,(scanR k s).2.1,(scanR k s).2.2,())
 |0,s,n,acc,hk,hn,hs,ha=>by omega
 |k+1,s,n,acc,hk,hn,hs,ha=>by
  obtain⟨n,rfl⟩:∃k,n=k+1:=⟨n-1,by omega⟩
  rw[erscan_0];unfold scanR;by_cases h0:s=[]
  ·subst h0;rw[cdF (by decide),if_pos rfl,List.append_nil]
  ·have hpos:=List.length_pos_iff.2 h0;obtain⟨z,hz,sz⟩:=one_n s hs;obtain⟨hP,hN⟩:=one_hid hz;rw[cdT (by omega),if_neg h0,gdB hP,gN,hN];have fit:=run_one s [] h0
   revert sz fit
   cases hr:oneR s with
   |more=>
    rintro rfl-;dsimp only;rw[cnT (by decide),List.append_nil]
   |bad e=>
    rintro⟨rfl,he⟩-;dsimp only;rw[cnT (show e≠Int.negSucc 0 from he),List.append_nil]
   |whole x r=>
    rintro⟨j,rfl,hj,hd⟩ ⟨-,hlt⟩;dsimp only;rw[cnF (show(-1:Int)=Int.negSucc 0 from rfl),gdT (by omega),gdT (show(j:Int)<=(s.length:Int) from Int.ofNat_le.2 hj),gdT (show(2*(acc.length+1)+400)*88<=281474976710656 by omega),gN];rw[show(j:Int).toNat=j from rfl,hd];have:=rscan_l k r n (acc++[x]) (by omega) (by omega) (by omega) (by simp only[List.length_append,List.length_singleton];omega)
    rw[List.append_assoc] at this;exact this
theorem rscan_n (s:L8) (hs:s.length<=1000000):orscan (s,())=some ((scanR (s.length+1) s).1,(scanR (s.length+1) s).2.1,(scanR (s.length+1) s).2.2,()):=by
 rw[orscan_g,erscan_g];exact rscan_l (s.length+1) s heads0 [] (by omega) (by unfold heads0;omega) hs (by simpa using hs)
