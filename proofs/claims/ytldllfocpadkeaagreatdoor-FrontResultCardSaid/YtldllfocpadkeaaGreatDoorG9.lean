/-
  Part of the proof: NiceZ TagG TagH TagR TagI ShP ShRev ShU ShV ShQ ShW PShA PShB. No condition.
-/
import Derived.Test.YtldllfocpadkeaaGreatDoorG4
import Derived.Test.YtldllfocpadkeaaGreatDoorG2
import Derived.Test.YtldllfocpadkeaaGreatDoorG7
import Derived.Test.YtldllfocpadkeaaGreatDoorG8
namespace Nice
open Go Go.Eng
abbrev ZW:Type:=Int×Int×Unit
def modN (n:Int):Int:=bif decide (n.tmod 65521<0) then n.tmod 65521+65521 else n.tmod 65521
def zB (z:ZW):Bool:=decide (0≤z.1∧z.1≤70000∧0≤z.2.1∧z.2.1≤70000)
def zaddN (a b:ZW):ZW:=(modN (a.1+b.1),modN (a.2.1+b.2.1),())
def zmulN (a b:ZW):ZW:=(modN (a.1*b.1-a.2.1*b.2.1),modN (a.1*b.2.1+a.2.1*b.1),())
def onN (z:ZW) (s:List UInt8):ZW:=s.foldl (fun z c=>zaddN (zmulN z (3,5,())) ((c.toNat:Int)+1,0,())) z
def hexW:List UInt8:=[48,49,50,51,52,53,54,55,56,57,97,98,99,100,101,102]
def hexD (n:Int):UInt8:=UInt8.ofNat ((hexW.getD n.toNat 0).toNat:Int).toNat
def fourN (n:Int):List UInt8:=[hexD ((n.tdiv 4096).tmod 16),hexD ((n.tdiv 256).tmod 16),hexD ((n.tdiv 16).tmod 16),hexD (n.tmod 16)]
def fourP (n:Int):Bool:=decide (0≤n∧n≤70000)
def textN (z:ZW):List UInt8:=fourN z.1++fourN z.2.1
def markN (s:List UInt8):ZW:=onN (0,1,()) s
def tagN (s:List UInt8):List UInt8:=textN (markN s)
abbrev ZT2:Ty:=.pair (.int .i64) (.pair (.int .i64) .unit)
noncomputable def modS:PSpec:=⟨[.int .i64],[.int .i64],fun _=>true,fun x=>(modN x.1,())⟩
noncomputable def zaddS:PSpec:=⟨[ZT2,ZT2],[ZT2],fun x=>zB x.1&&zB x.2.1,fun x=>(zaddN x.1 x.2.1,())⟩
noncomputable def zmulS:PSpec:=⟨[ZT2,ZT2],[ZT2],fun x=>zB x.1&&zB x.2.1,fun x=>(zmulN x.1 x.2.1,())⟩
noncomputable def onS:PSpec:=⟨[ZT2,.str],[ZT2],fun x=>zB x.1&&bndS x.2.1,fun x=>(onN x.1 x.2.1,())⟩
noncomputable def fourS:PSpec:=⟨[.int .i64],[.str],fun x=>fourP x.1,fun x=>(fourN x.1,())⟩
noncomputable def textS:PSpec:=⟨[ZT2],[.str],fun x=>zB x.1,fun x=>(textN x.1,())⟩
noncomputable def markS:PSpec:=⟨[.str],[ZT2],fun x=>bndS x.1,fun x=>(markN x.1,())⟩
noncomputable def tagS:PSpec:=⟨[.str],[.str],fun x=>bndS x.1,fun x=>(tagN x.1,())⟩
theorem tmod_b (n:Int): -65521<n.tmod 65521∧n.tmod 65521<65521:=by
 rcases Int.le_total 0 n with h|h
 ·rw[Int.tmod_eq_emod_of_nonneg h];omega
 ·obtain⟨u,rfl⟩:∃u,n= -u:=⟨-n,by omega⟩
  rw[Int.neg_tmod,Int.tmod_eq_emod_of_nonneg (by omega)];omega
theorem modN_b (n:Int):0≤modN n∧modN n<65521:=by
 have:=tmod_b n;unfold modN;by_cases h:n.tmod 65521<0
 ·rw[cdT h];omega
 ·rw[cdF h];omega
theorem zB_iff {z:ZW}:zB z=true↔(0≤z.1∧z.1≤70000∧0≤z.2.1∧z.2.1≤70000):=decide_eq_true_iff
theorem zadd_b (a b:ZW):zB (zaddN a b)=true:=by
 have h1:=modN_b (a.1+b.1);have h2:=modN_b (a.2.1+b.2.1);exact zB_iff.2 ⟨h1.1,by show modN _≤_;omega,h2.1,by show modN _≤_;omega⟩
theorem zmul_b (a b:ZW):zB (zmulN a b)=true:=by
 have h1:=modN_b (a.1*b.1-a.2.1*b.2.1);have h2:=modN_b (a.1*b.2.1+a.2.1*b.1);exact zB_iff.2 ⟨h1.1,by show modN _≤_;omega,h2.1,by show modN _≤_;omega⟩
theorem on_b:∀(s:List UInt8) (z:ZW),zB z=true→zB (onN z s)=true
 |[],_,h=>h
 |_::s,_,_=>on_b s _ (zadd_b _ _)
theorem tagN_len (s:List UInt8):(tagN s).length=8:=rfl
theorem mul_bd {a b:Int} (h1:0≤a) (h2:a≤70000) (h3:0≤b) (h4:b≤70000):0≤a*b∧a*b≤4900000000:=
 ⟨Int.mul_nonneg h1 h3,by
  have:=Int.mul_le_mul h2 h4 h3 (by omega);omega⟩
theorem tdiv_bd {n k:Int} (h0:0≤n) (h1:n≤70000) (hk:1≤k):0≤n.tdiv k∧n.tdiv k≤70000:=by
 rw[Int.tdiv_eq_ediv_of_nonneg h0];exact⟨Int.ediv_nonneg h0 (by omega),Int.le_trans (Int.ediv_le_self k h0) h1⟩
theorem tmod16 {n:Int} (h0:0≤n):0≤n.tmod 16∧n.tmod 16<16:=by
 rw[Int.tmod_eq_emod_of_nonneg h0];omega
end Nice
namespace Nice
open Go Go.Eng
def un (w:Nat):Int:=(fIv w .i64).getD 0
def okR (lo hi:Int) (w:Nat):Bool:=decide (w=fN (un w))&&(decide (lo≤un w)&&decide (un w≤hi))
def okF (w:Nat):Bool:=okR 0 65520 w
def okM (w:Nat):Bool:=okR (-1125899906842624) 1125899906842624 w
def okC (z:Nat×Nat):Bool:=okF z.1&&okF z.2
def cz (z:Nat×Nat):ZW:=(un z.1,un z.2,())
def cf (z:ZW):Nat×Nat:=(fN z.1,fN z.2.1)
def partW (w:Nat):Nat:=fN (modN (un w))
noncomputable def partS:PSpec:=⟨[.f64],[.f64],fun x=>okM x.1,fun x=>(partW x.1,())⟩
noncomputable def gmodS:PSpec:=⟨[.cx],[.cx],fun x=>okM x.1.1&&okM x.1.2,fun x=>((partW x.1.1,partW x.1.2),())⟩
noncomputable def gaddS:PSpec:=⟨[.cx,.cx],[.cx],fun x=>okC x.1&&okC x.2.1,fun x=>(cf (zaddN (cz x.1) (cz x.2.1)),())⟩
noncomputable def gmulS:PSpec:=⟨[.cx,.cx],[.cx],fun x=>okC x.1&&okC x.2.1,fun x=>(cf (zmulN (cz x.1) (cz x.2.1)),())⟩
noncomputable def gonS:PSpec:=⟨[.cx,.slice .byte],[.cx],fun x=>okC x.1&&bndS x.2.1,fun x=>(cf (onN (cz x.1) x.2.1),())⟩
noncomputable def gmarkS:PSpec:=⟨[.slice .byte],[.cx],fun x=>bndS x.1,fun x=>(cf (markN x.1),())⟩
noncomputable def gtextS:PSpec:=⟨[.cx],[.str],fun x=>okC x.1,fun x=>(textN (cz x.1),())⟩
noncomputable def gtagS:PSpec:=⟨[.str],[.str],fun x=>bndS x.1,fun x=>(tagN x.1,())⟩
theorem un_fN {n:Int} (h:n.natAbs<2^53):un (fN n)=n:=by unfold un;rw[fint h];rfl
theorem okR_iff {lo hi:Int} {w:Nat} (hl: -2000000000000000≤lo) (hh:hi≤2000000000000000):okR lo hi w=true↔∃n:Int,lo≤n∧n≤hi∧w=fN n:=by
 unfold okR;rw[Bool.and_eq_true,Bool.and_eq_true,decide_eq_true_eq,decide_eq_true_eq,decide_eq_true_eq];constructor
 ·rintro⟨a,b,c⟩;exact⟨un w,b,c,a⟩
 ·rintro⟨n,a,b,rfl⟩;rw[un_fN (by omega)];exact⟨rfl,a,b⟩
theorem okF_iff {w:Nat}:okF w=true↔∃n:Int,0≤n∧n≤65520∧w=fN n:=okR_iff (by decide) (by decide)
theorem okM_iff {w:Nat}:okM w=true↔∃n:Int, -1125899906842624≤n∧n≤1125899906842624∧w=fN n:=okR_iff (by decide) (by decide)
theorem okM_of {n:Int} (h1: -1125899906842624≤n) (h2:n≤1125899906842624):okM (fN n)=true:=okM_iff.2 ⟨n,h1,h2,rfl⟩
theorem okF_of {n:Int} (h1:0≤n) (h2:n≤65520):okF (fN n)=true:=okF_iff.2 ⟨n,h1,h2,rfl⟩
theorem okC_cf {z:ZW} (h1:0≤z.1∧z.1<65521) (h2:0≤z.2.1∧z.2.1<65521):okC (cf z)=true:=by
 unfold okC cf;rw[Bool.and_eq_true];exact⟨okF_of h1.1 (by omega),okF_of h2.1 (by omega)⟩
theorem cz_cf {z:ZW} (h1:0≤z.1∧z.1<65521) (h2:0≤z.2.1∧z.2.1<65521):cz (cf z)=z:=by
 obtain⟨a,b,⟨⟩⟩:=z;show(un (fN a),un (fN b),())=(a,b,());have h1:0≤a∧a<65521:=h1;have h2:0≤b∧b<65521:=h2;rw[un_fN (by omega),un_fN (by omega)]
theorem zadd_m (a b:ZW):(0≤(zaddN a b).1∧(zaddN a b).1<65521)∧0≤(zaddN a b).2.1∧(zaddN a b).2.1<65521:=⟨modN_b _,modN_b _⟩
theorem zmul_m (a b:ZW):(0≤(zmulN a b).1∧(zmulN a b).1<65521)∧0≤(zmulN a b).2.1∧(zmulN a b).2.1<65521:=⟨modN_b _,modN_b _⟩
theorem may_ok {a b:Int} (h1:0≤a) (h2:a≤65520) (h3:0≤b) (h4:b≤65520):(finW (fN a)&&finW (fN b))=true∧mayW (fN a) (fN b)=true:=by
 obtain⟨e1,e2⟩:=may_n h1 (by omega) h3 (by omega);refine⟨e1,e2.trans ?_⟩;rw[decide_eq_true (show a<65521 by omega),decide_eq_true (show b<65521 by omega)];rfl
theorem fAdd {a b:Int} (ha:0≤a) (hb:0≤b) (h:a+b<9007199254740992):fOk .add (fN a) (fN b)=true∧fA .add (fN a) (fN b)=fN (a+b):=by
 unfold fOk fA;rw[fadd ha hb h];exact⟨rfl,rfl⟩
theorem fSub {a b:Int} (ha:0≤a) (hb:0≤b) (h1:a<9007199254740992) (h2:b<9007199254740992):fOk .sub (fN a) (fN b)=true∧fA .sub (fN a) (fN b)=fN (a-b):=by
 unfold fOk fA;rw[fsub ha hb h1 h2];exact⟨rfl,rfl⟩
theorem fMul {a b:Int} (ha:0≤a) (hb:0≤b) (h1:a≤65521) (h2:b≤65521):fOk .mul (fN a) (fN b)=true∧fA .mul (fN a) (fN b)=fN (a*b):=by
 have hm:a*b≤65521*65521:=Int.mul_le_mul h1 h2 hb (by decide);unfold fOk fA;rw[fmul ha hb (by omega) (by omega) (by omega)];exact⟨rfl,rfl⟩
theorem c50:(4832362400168542208:Nat)=fN 1125899906842624:=by decide
theorem c50n:(14055734437023318016:Nat)=fN (-1125899906842624):=by decide
theorem c1:(4607182418800017408:Nat)=fN 1:=by decide
theorem c3:(4613937818241073152:Nat)=fN 3:=by decide
theorem c5:(4617315517961601024:Nat)=fN 5:=by decide
theorem c0:(0:Nat)=fN 0:=by decide
end Nice
namespace Go.Proofs.YtldllfocpadkeaaGreatDoor
open Go Go.Eng Nice Go.RowKit
set_option maxRecDepth 1000000
noncomputable def opart (x:DenL [.f64]):Option (DenL [.f64]):=fO Tryz.prog (envS []) (shOf []) Tryz.f345 [.f64] [.f64] x
theorem epart (x:Nat):opart (x,())=gd [(fIv x .i64).isSome] (bif decide (((fIv x .i64).getD 0).tmod 65521<0) then gd [decide (inK .i64 (((fIv x .i64).getD 0).tmod 65521+65521))] (some (fN (((fIv x .i64).getD 0).tmod 65521+65521),())) else some (fN (((fIv x .i64).getD 0).tmod 65521),())):=by kernel_rfl
theorem part_c:PC 345 partS:=(pureO (envS_ok (l:=[]) trivial) gl_ne Tryz.func345 (by kernel_rfl) (by decide)).nice fun⟨x,()⟩ h=>by
 obtain⟨n,h1,h2,rfl⟩:=okM_iff.1 h;have ht:=tmod_b n;have hu:un (fN n)=n:=un_fN (by omega);show opart _=some (fN (modN (un (fN n))),());rw[epart,hu,fint (by omega),gdB (b:=(some n).isSome) rfl,xG,Option.getD_some];unfold modN;by_cases h:n.tmod 65521<0
 ·rw[cdT h,cdT h,gdT (inK_i64.2 ⟨by omega,by omega⟩),xG]
 ·rw[cdF h,cdF h]
noncomputable def ogmod (x:DenL [.cx]):Option (DenL [.cx]):=fO Tryz.prog (envS [(269,wholeS),(345,partS)]) (shOf []) Tryz.f319 [.cx] [.cx] x
theorem egmod (a b:Nat):ogmod ((a,b),())=(bif wholeW a 14055734437023318016 4832362400168542208 then(bif wholeW b 14055734437023318016 4832362400168542208 then gd [okM b,okM a,finW b,finW a] (some ((partW a,partW b),())) else gd [finW b,finW a] (some ((0,0),()))) else gd [finW a] (some ((0,0),()))):=by kernel_rfl
theorem gmod_c:PC 319 gmodS:=(pureO (envS_ok (l:=[(269,wholeS),(345,partS)]) ⟨whole_c,part_c,trivial⟩) gl_ne Tryz.func319 (by kernel_rfl) (by decide)).nice fun⟨⟨a,b⟩,()⟩ h=>by
 have h:(okM a&&okM b)=true:=h;rw[Bool.and_eq_true] at h;obtain⟨n,h1,h2,rfl⟩:=okM_iff.1 h.1;obtain⟨m,h3,h4,rfl⟩:=okM_iff.1 h.2;have w1:wholeW (fN n) (fN (-1125899906842624)) (fN 1125899906842624)=true:=by
  rw[fwhole (by omega) (by decide) (by decide),decide_eq_true h1,decide_eq_true h2];rfl
 have w2:wholeW (fN m) (fN (-1125899906842624)) (fN 1125899906842624)=true:=by
  rw[fwhole (by omega) (by decide) (by decide),decide_eq_true h3,decide_eq_true h4];rfl
 show ogmod _=_;rw[egmod,c50,c50n,w1,xT,w2,xT,gdB h.2,gdB h.1,gdB (ftrunc (by omega)).2,gdB (ftrunc (by omega)).2,xG]
noncomputable def ogadd (x:DenL [.cx,.cx]):Option (DenL [.cx]):=fO Tryz.prog (envS [(201,mayS),(319,gmodS)]) (shOf []) Tryz.f270 [.cx,.cx] [.cx] x
theorem egadd (a b c d:Nat):ogadd ((a,b),(c,d),())=(bif mayW a b then(bif mayW c d then gd [okM (fA .add a c)&&okM (fA .add b d),fOk .add a c,fOk .add b d,finW c&&finW d,finW a&&finW b] (some ((partW (fA .add a c),partW (fA .add b d)),())) else gd [finW c&&finW d,finW a&&finW b] (some ((0,0),()))) else gd [finW a&&finW b] (some ((0,0),()))):=by kernel_rfl
noncomputable def ogmul (x:DenL [.cx,.cx]):Option (DenL [.cx]):=fO Tryz.prog (envS [(201,mayS),(319,gmodS)]) (shOf []) Tryz.f271 [.cx,.cx] [.cx] x
theorem egmul (a b c d:Nat):ogmul ((a,b),(c,d),())=(bif mayW a b then(bif mayW c d then gd [okM (fA .sub (fA .mul a c) (fA .mul b d))&&okM (fA .add (fA .mul a d) (fA .mul b c)),fOk .mul a c,fOk .mul b d,fOk .sub (fA .mul a c) (fA .mul b d),fOk .mul a d,fOk .mul b c,fOk .add (fA .mul a d) (fA .mul b c),finW c&&finW d,finW a&&finW b] (some ((partW (fA .sub (fA .mul a c) (fA .mul b d)),partW (fA .add (fA .mul a d) (fA .mul b c))),())) else gd [finW c&&finW d,finW a&&finW b] (some ((0,0),()))) else gd [finW a&&finW b] (some ((0,0),()))):=by kernel_rfl
theorem okC_iff {z:Nat×Nat} (h:okC z=true):∃a b:Int,(0≤a∧a≤65520)∧(0≤b∧b≤65520)∧z=(fN a,fN b):=by
 obtain⟨x,y⟩:=z;have h:(okF x&&okF y)=true:=h;rw[Bool.and_eq_true] at h;obtain⟨a,a1,a2,rfl⟩:=okF_iff.1 h.1;obtain⟨b,b1,b2,rfl⟩:=okF_iff.1 h.2;exact⟨a,b,⟨a1,a2⟩,⟨b1,b2⟩,rfl⟩
theorem gadd_c:PC 270 gaddS:=(pureO (envS_ok (l:=[(201,mayS),(319,gmodS)]) ⟨may_c,gmod_c,trivial⟩) gl_ne Tryz.func270 (by kernel_rfl) (by decide)).nice fun⟨z,u,()⟩ h=>by
 have h:(okC z&&okC u)=true:=h;rw[Bool.and_eq_true] at h;obtain⟨a,b,ha,hb,rfl⟩:=okC_iff h.1;obtain⟨c,d,hc,hd,rfl⟩:=okC_iff h.2;obtain⟨m1,m2⟩:=may_ok ha.1 ha.2 hb.1 hb.2;obtain⟨m3,m4⟩:=may_ok hc.1 hc.2 hd.1 hd.2;obtain⟨p1,p2⟩:=fAdd (a:=a) (b:=c) (by omega) (by omega) (by omega);obtain⟨p3,p4⟩:=fAdd (a:=b) (b:=d) (by omega) (by omega) (by omega)
 have o1:=okM_of (n:=a+c) (by omega) (by omega);have o2:=okM_of (n:=b+d) (by omega) (by omega);show ogadd _=some (cf (zaddN (un (fN a),un (fN b),()) (un (fN c),un (fN d),())),());rw[egadd,m2,xT,m4,xT,p2,p4,gdB (by rw[o1,o2];rfl),gdB p1,gdB p3,gdB m3,gdB m1,xG,un_fN (by omega),un_fN (by omega),un_fN (by omega),un_fN (by omega)]
 unfold partW;rw[un_fN (by omega),un_fN (by omega)];rfl
theorem gmul_c:PC 271 gmulS:=(pureO (envS_ok (l:=[(201,mayS),(319,gmodS)]) ⟨may_c,gmod_c,trivial⟩) gl_ne Tryz.func271 (by kernel_rfl) (by decide)).nice fun⟨z,u,()⟩ h=>by
 have h:(okC z&&okC u)=true:=h;rw[Bool.and_eq_true] at h;obtain⟨a,b,ha,hb,rfl⟩:=okC_iff h.1;obtain⟨c,d,hc,hd,rfl⟩:=okC_iff h.2;obtain⟨m1,m2⟩:=may_ok ha.1 ha.2 hb.1 hb.2;obtain⟨m3,m4⟩:=may_ok hc.1 hc.2 hd.1 hd.2;obtain⟨p1,p2⟩:=fMul (a:=a) (b:=c) (by omega) (by omega) (by omega) (by omega);obtain⟨p3,p4⟩:=fMul (a:=b) (b:=d) (by omega) (by omega) (by omega) (by omega)
 obtain⟨p5,p6⟩:=fMul (a:=a) (b:=d) (by omega) (by omega) (by omega) (by omega);obtain⟨p7,p8⟩:=fMul (a:=b) (b:=c) (by omega) (by omega) (by omega) (by omega);have q1:=mul_bd (a:=a) (b:=c) (by omega) (by omega) (by omega) (by omega);have q2:=mul_bd (a:=b) (b:=d) (by omega) (by omega) (by omega) (by omega)
 have q3:=mul_bd (a:=a) (b:=d) (by omega) (by omega) (by omega) (by omega);have q4:=mul_bd (a:=b) (b:=c) (by omega) (by omega) (by omega) (by omega);obtain⟨s1,s2⟩:=fSub (a:=a*c) (b:=b*d) (by omega) (by omega) (by omega) (by omega);obtain⟨s3,s4⟩:=fAdd (a:=a*d) (b:=b*c) (by omega) (by omega) (by omega)
 have o1:=okM_of (n:=a*c-b*d) (by omega) (by omega);have o2:=okM_of (n:=a*d+b*c) (by omega) (by omega);show ogmul _=some (cf (zmulN (un (fN a),un (fN b),()) (un (fN c),un (fN d),())),());rw[egmul,m2,xT,m4,xT,p2,p4,p6,p8,s2,s4,gdB (by rw[o1,o2];rfl),gdB p1,gdB p3,gdB s1,gdB p5,gdB p7,gdB s3,gdB m3,gdB m1,xG,un_fN (by omega),un_fN (by omega),un_fN (by omega),un_fN (by omega)]
 unfold partW;rw[un_fN (by omega),un_fN (by omega)];rfl
end Go.Proofs.YtldllfocpadkeaaGreatDoor
namespace Nice
open Go Go.Eng
def stepZ (z:ZW) (c:UInt8):ZW:=zaddN (zmulN z (3,5,())) ((c.toNat:Int)+1,0,())
def dig1 (n i:Int):Int:=IntKind.u8.wrap (IntKind.i64.wrap ((Nat.bitwise and (n.fdiv (2^min (4*i).toNat 64)%18446744073709551616).toNat 15:Nat):Int))
def chr1 (d:Int):UInt8:=bif decide (d<10) then UInt8.ofNat (IntKind.u8.wrap (48+d)).toNat else UInt8.ofNat (IntKind.u8.wrap (IntKind.u8.wrap (97+d)-10)).toNat
abbrev TO:=Option (DenL [.str])
noncomputable def stepH (n i:Int) (o:List UInt8) (nx:List UInt8→TO) (fin:TO):TO:=
 bif decide (i≥0) then gd [decide (0≤4*i),decide (inK .i64 (4*i))] (bif decide (dig1 n i<10) then
     gd [decide (inK .i64 (i-1)),decide ((2*(o.length+[UInt8.ofNat (IntKind.u8.wrap (48+dig1 n i)).toNat].length)+400)*1≤281474976710656),decide (inK .u8 (IntKind.u8.wrap (48+dig1 n i)))] (nx (o++[UInt8.ofNat (IntKind.u8.wrap (48+dig1 n i)).toNat]))
  else gd [decide (inK .i64 (i-1)),decide ((2*(o.length+[UInt8.ofNat (IntKind.u8.wrap (IntKind.u8.wrap (97+dig1 n i)-10)).toNat].length)+400)*1≤281474976710656),decide (inK .u8 (IntKind.u8.wrap (IntKind.u8.wrap (97+dig1 n i)-10)))] (nx (o++[UInt8.ofNat (IntKind.u8.wrap (IntKind.u8.wrap (97+dig1 n i)-10)).toNat])))
 else fin
end Nice
namespace Go.Proofs.YtldllfocpadkeaaGreatDoor
open Go Go.Eng Nice Go.RowKit
set_option maxRecDepth 1000000
abbrev shgon:List (Nat×List (Nat×Sh)):=[(4,[(0,(.one .sym)),(4,(.one .sym)),(10,(.one (.dat .byte))),(11,(.one .sym)),(12,(.one .sym))])]
noncomputable def hgon (k:Nat) (a b c d:Nat) (l:List UInt8) (m i:Int):Option (DenL [.cx]):=rH Tryz.prog (envS [(201,mayS),(270,gaddS),(271,gmulS)]) (shOf shgon) Tryz.f202 [.cx] k 0 [(0,sy (.complex .f64 a b)),(4,sy (.complex .f64 c d)),(10,dt 10),(11,sy (.int .i64 m)),(12,sy (.int .i64 i))] [.dat .byte l]
noncomputable def ogon (x:DenL [.cx,.slice .byte]):Option (DenL [.cx]):=fO Tryz.prog (envS [(201,mayS),(270,gaddS),(271,gmulS)]) (shOf shgon) Tryz.f202 [.cx,.slice .byte] [.cx] x
theorem egon_g (N:Nat) (a b:Nat) (l:List UInt8):fON Tryz.prog (envS [(201,mayS),(270,gaddS),(271,gmulS)]) (shOf shgon) Tryz.f202 [.cx,.slice .byte] [.cx] N ((a,b),l,())=
 (bif mayW a b then gd [finW a&&finW b] (hgon N a b 0 0 l (l.length:Int) 0) else gd [finW a&&finW b] (some ((0,0),()))):=by kernel_rfl
theorem ogon_g (x:DenL [.cx,.slice .byte]):ogon x=fON Tryz.prog (envS [(201,mayS),(270,gaddS),(271,gmulS)]) (shOf shgon) Tryz.f202 [.cx,.slice .byte] [.cx] heads0 x:=rfl
theorem egon_0 (k:Nat) (a b c d:Nat) (l:List UInt8) (m i:Int):hgon (k+1) a b c d l m i=
 (bif decide (i<m) then gd [decide (inK .i64 (i+1)),okC (cf (zmulN (cz (a,b)) (cz (4613937818241073152,4617315517961601024))))&&okC (fA .add (fN ((l.getD i.toNat Ty.byte.dflt).toNat:Int)) 4607182418800017408,0),fOk .add (fN ((l.getD i.toNat Ty.byte.dflt).toNat:Int)) 4607182418800017408,okC (a,b)&&okC (4613937818241073152,4617315517961601024),decide (i.toNat<l.length),decide (0≤i),decide (i<(l.length:Int))]
  (hgon k (cf (zaddN (cz (cf (zmulN (cz (a,b)) (cz (4613937818241073152,4617315517961601024))))) (cz (fA .add (fN ((l.getD i.toNat Ty.byte.dflt).toNat:Int)) 4607182418800017408,0)))).1 (cf (zaddN (cz (cf (zmulN (cz (a,b)) (cz (4613937818241073152,4617315517961601024))))) (cz (fA .add (fN ((l.getD i.toNat Ty.byte.dflt).toNat:Int)) 4607182418800017408,0)))).2 c d l m (i+1))
 else some ((a,b),())):=by kernel_rfl
theorem gon_l (c d:Nat) (l:List UInt8) (hl:l.length≤140737488355328):∀(r i k:Nat) (z:ZW),l.length=i+r→r<k→(0≤z.1∧z.1<65521)→(0≤z.2.1∧z.2.1<65521)→hgon k (cf z).1 (cf z).2 c d l (l.length:Int) (i:Int)=some (cf (onN z (l.drop i)),()):=by
 intro r
 induction r with
 |zero=>
  intro i k z hi hk h1 h2;obtain⟨k,rfl⟩:∃m,k=m+1:=⟨k-1,by omega⟩
  rw[egon_0,cdF (by omega),List.drop_eq_nil_of_le (by omega)];rfl
 |succ r ih=>
  intro i k z hi hk h1 h2;obtain⟨k,rfl⟩:∃m,k=m+1:=⟨k-1,by omega⟩
  have hlt:i<l.length:=by omega
  have hd:l.drop i=l.getD i Ty.byte.dflt::l.drop (i+1):=by
   rw[List.drop_eq_getElem_cons hlt,List.getD_eq_getElem?_getD,List.getElem?_eq_getElem hlt];rfl
  have hb:=(l.getD i Ty.byte.dflt).toNat_lt;obtain⟨g1,g2⟩:=zadd_m (zmulN z (3,5,())) (((l.getD i Ty.byte.dflt).toNat:Int)+1,0,());obtain⟨q1,q2⟩:=zmul_m z (3,5,());have key:=ih (i+1) k (stepZ z (l.getD i Ty.byte.dflt)) (by omega) (by omega) g1 g2;simp only[Int.natCast_add,Int.natCast_one] at key;obtain⟨p1,p2⟩:=fAdd (a:=((l.getD i Ty.byte.dflt).toNat:Int)) (b:=1) (by omega) (by omega) (by omega)
  have e1:cz ((cf z).1,(cf z).2)=z:=cz_cf h1 h2;have e2:cz (4613937818241073152,4617315517961601024)=(3,5,()):=by
   rw[c3,c5];exact cz_cf (z:=(3,5,())) (by decide) (by decide)
  have e3:cz (fN (((l.getD i Ty.byte.dflt).toNat:Int)+1),0)=(((l.getD i Ty.byte.dflt).toNat:Int)+1,0,()):=cz_cf (z:=(((l.getD i Ty.byte.dflt).toNat:Int)+1,0,())) ⟨by show(0:Int)≤_+1;omega,by show _+(1:Int)<_;omega⟩ ⟨Int.le_refl 0,(by decide:(0:Int)<65521)⟩;have o1:okC ((cf z).1,(cf z).2)=true:=okC_cf h1 h2
  have o2:okC (4613937818241073152,4617315517961601024)=true:=by
   rw[c3,c5];exact okC_cf (z:=(3,5,())) (by decide) (by decide)
  have o3:okC (fN (((l.getD i Ty.byte.dflt).toNat:Int)+1),0)=true:=okC_cf (z:=(((l.getD i Ty.byte.dflt).toNat:Int)+1,0,())) ⟨by show(0:Int)≤_+1;omega,by show _+(1:Int)<_;omega⟩ ⟨Int.le_refl 0,(by decide:(0:Int)<65521)⟩;have o4:=okC_cf q1 q2;rw[egon_0,cdT (by omega),show(i:Int).toNat=i from rfl];rw[←c1] at p1 p2
  rw[p2,e1,e2,e3,cz_cf q1 q2,gdT (inK_i64.2 ⟨by omega,by omega⟩),gdB (by rw[o4,o3];rfl),gdB p1,gdB (by rw[o1,o2];rfl),gdT hlt,gdT (by omega),gdT (by omega),xG,hd];exact key
theorem gon_c:PC 202 gonS:=(pureO (sh:=shOf shgon) (envS_ok (l:=[(201,mayS),(270,gaddS),(271,gmulS)]) ⟨may_c,gadd_c,gmul_c,trivial⟩) gl_ne Tryz.func202 (by kernel_rfl) (by decide)).nice fun⟨z,l,()⟩ h=>by
 have h:(okC z&&bndS l)=true:=h;rw[Bool.and_eq_true] at h;have hl:l.length≤140737488355328:=of_decide_eq_true h.2;obtain⟨a,b,ha,hb,rfl⟩:=okC_iff h.1;obtain⟨m1,m2⟩:=may_ok ha.1 ha.2 hb.1 hb.2;show ogon _=some (cf (onN (un (fN a),un (fN b),()) l),());rw[ogon_g,egon_g,m2,xT,gdB m1,xG,un_fN (by omega),un_fN (by omega)]
 exact gon_l 0 0 l hl l.length 0 heads0 (a,b,()) (by omega) (by unfold heads0;omega) ⟨ha.1,by show a<65521;omega⟩ ⟨hb.1,by show b<65521;omega⟩
noncomputable def ogmark (x:DenL [.slice .byte]):Option (DenL [.cx]):=fO Tryz.prog (envS [(202,gonS)]) (shOf []) Tryz.f145 [.slice .byte] [.cx] x
theorem egmark (l:List UInt8):ogmark (l,())=gd [okC (0,4607182418800017408)&&bndS l] (some (cf (onN (cz (0,4607182418800017408)) l),())):=by kernel_rfl
theorem gmark_c:PC 145 gmarkS:=(pureO (envS_ok (l:=[(202,gonS)]) ⟨gon_c,trivial⟩) gl_ne Tryz.func145 (by kernel_rfl) (by decide)).nice fun⟨l,()⟩ h=>by
 have h:bndS l=true:=h;have e:cz (0,4607182418800017408)=(0,1,()):=by
  rw[c1];exact cz_cf (z:=(0,1,())) (by decide) (by decide)
 have o:okC (0,4607182418800017408)=true:=by
  rw[c1];exact okC_cf (z:=(0,1,())) (by decide) (by decide)
 show ogmark _=some (cf (onN (0,1,()) l),());rw[egmark,e,gdB (by rw[o,h];rfl),xG]
abbrev shgt:List (Nat×List (Nat×Sh)):=[(9,[(2,(.one .sym)),(3,(.one (.vec .byte 5))),(6,(.one .sym)),(7,(.one .sym)),(16,(.agg [.sym,.sym])),(17,(.one .any))])]
noncomputable def hgt (k:Nat) (j:Int) (t o:List UInt8) (n i:Int) (a b:Nat):TO:=rH Tryz.prog (envS [(201,mayS)]) (shOf shgt) Tryz.f144 [.str] k 1 [(2,sy (.string (bs t))),(3,dt 10),(6,sy (.int .i64 n)),(7,sy (.int .i64 i)),(16,.agg #[sy (.float .f64 a),sy (.float .f64 b)]),(17,.int .i64 j)] [.vec .byte o 5]
noncomputable def ogt (x:DenL [.cx]):TO:=fO Tryz.prog (envS [(201,mayS)]) (shOf shgt) Tryz.f144 [.cx] [.str] x
theorem ogt_g (x:DenL [.cx]):ogt x=fON Tryz.prog (envS [(201,mayS)]) (shOf shgt) Tryz.f144 [.cx] [.str] heads0 x:=rfl
theorem egt_g (N:Nat) (a b:Nat):fON Tryz.prog (envS [(201,mayS)]) (shOf shgt) Tryz.f144 [.cx] [.str] N ((a,b),())=
 (bif mayW a b then gd [(fIv a .i64).isSome,finW a&&finW b] (hgt N 0 [] [] ((fIv a .i64).getD 0) 3 a b) else gd [finW a&&finW b] (some ([],()))):=by kernel_rfl
theorem egt_0 (k:Nat) (t o:List UInt8) (n i:Int) (a b:Nat):hgt (k+1) 0 t o n i a b=stepH n i o (fun o'=>hgt k 0 t o' n (i-1) a b) (gd [(fIv b .i64).isSome] (hgt k 1 t o ((fIv b .i64).getD 0) 3 a b)):=by kernel_rfl
theorem egt_1 (k:Nat) (t o:List UInt8) (n i:Int) (a b:Nat):hgt (k+1) 1 t o n i a b=stepH n i o (fun o'=>hgt k 1 t o' n (i-1) a b) (some (o,())):=by kernel_rfl
end Go.Proofs.YtldllfocpadkeaaGreatDoor
namespace Go.Proofs.YtldllfocpadkeaaGreatDoor
open Go Go.Eng Nice
set_option maxRecDepth 1000000
noncomputable def omod (x:DenL [.int .i64]):Option (DenL [.int .i64]):=fO Tryz.prog (envS []) (shOf []) Tryz.f272 [.int .i64] [.int .i64] x
theorem emod (n:Int):omod (n,())=(bif decide (n.tmod 65521<0) then gd [decide (inK .i64 (n.tmod 65521+65521))] (some (n.tmod 65521+65521,())) else some (n.tmod 65521,())):=by kernel_rfl
theorem mod_c:PC 272 modS:=(pureO (envS_ok (l:=[]) trivial) gl_ne Tryz.func272 (by kernel_rfl) (by decide)).nice fun⟨n,()⟩ _=>by
 have:=tmod_b n;show omod _=some (modN n,());rw[emod];unfold modN;by_cases h:n.tmod 65521<0
 ·rw[cdT h,cdT h,gdT (inK_i64.2 ⟨by omega,by omega⟩),gd_nil]
 ·rw[cdF h,cdF h]
noncomputable def ozadd (x:DenL [ZT2,ZT2]):Option (DenL [ZT2]):=fO Tryz.prog (envS [(272,modS)]) (shOf []) Tryz.f206 [ZT2,ZT2] [ZT2] x
theorem ezadd (a b c d:Int):ozadd ((a,b,()),(c,d,()),())=gd [decide (inK .i64 (b+d)),decide (inK .i64 (a+c))] (some ((modN (a+c),modN (b+d),()),())):=by kernel_rfl
theorem zadd_c:PC 206 zaddS:=(pureO (envS_ok (l:=[(272,modS)]) ⟨mod_c,trivial⟩) gl_ne Tryz.func206 (by kernel_rfl) (by decide)).nice fun⟨⟨a,b,()⟩,⟨c,d,()⟩,()⟩ h=>by
 have h:(zB (a,b,())&&zB (c,d,()))=true:=h;rw[Bool.and_eq_true,zB_iff,zB_iff] at h;obtain⟨⟨h1,h2,h3,h4⟩,h5,h6,h7,h8⟩:=h;dsimp only at h1 h2 h3 h4 h5 h6 h7 h8;show ozadd _=_;rw[ezadd,gdT (inK_i64.2 ⟨by omega,by omega⟩),gdT (inK_i64.2 ⟨by omega,by omega⟩),gd_nil];rfl
noncomputable def ozmul (x:DenL [ZT2,ZT2]):Option (DenL [ZT2]):=fO Tryz.prog (envS [(272,modS)]) (shOf []) Tryz.f207 [ZT2,ZT2] [ZT2] x
theorem ezmul (a b c d:Int):ozmul ((a,b,()),(c,d,()),())=gd [decide (inK .i64 (a*d+b*c)),decide (inK .i64 (b*c)),decide (inK .i64 (a*d)),decide (inK .i64 (a*c-b*d)),decide (inK .i64 (b*d)),decide (inK .i64 (a*c))] (some ((modN (a*c-b*d),modN (a*d+b*c),()),())):=by kernel_rfl
theorem zmul_c:PC 207 zmulS:=(pureO (envS_ok (l:=[(272,modS)]) ⟨mod_c,trivial⟩) gl_ne Tryz.func207 (by kernel_rfl) (by decide)).nice fun⟨⟨a,b,()⟩,⟨c,d,()⟩,()⟩ h=>by
 have h:(zB (a,b,())&&zB (c,d,()))=true:=h;rw[Bool.and_eq_true,zB_iff,zB_iff] at h;obtain⟨⟨h1,h2,h3,h4⟩,h5,h6,h7,h8⟩:=h;dsimp only at h1 h2 h3 h4 h5 h6 h7 h8;obtain⟨m1,m2⟩:=mul_bd h1 h2 h5 h6;obtain⟨m3,m4⟩:=mul_bd h3 h4 h7 h8;obtain⟨m5,m6⟩:=mul_bd h1 h2 h7 h8;obtain⟨m7,m8⟩:=mul_bd h3 h4 h5 h6;show ozmul _=_
 rw[ezmul,gdT (inK_i64.2 ⟨by omega,by omega⟩),gdT (inK_i64.2 ⟨by omega,by omega⟩),gdT (inK_i64.2 ⟨by omega,by omega⟩),gdT (inK_i64.2 ⟨by omega,by omega⟩),gdT (inK_i64.2 ⟨by omega,by omega⟩),gdT (inK_i64.2 ⟨by omega,by omega⟩),gd_nil];rfl
abbrev shon:List (Nat×List (Nat×Sh)):=[(2,[(1,(.one .sym)),(2,(.obj [.sym,.sym])),(4,(.obj [.sym,.sym])),(5,(.one .sym))])]
noncomputable def hon_0 (n:Nat) (t1:List UInt8) (t2_0:Int) (t2_1:Int) (t4_0:Int) (t4_1:Int) (t5:Int):Option (DenL [ZT2]):=rH Tryz.prog (envS [(206,zaddS),(207,zmulS)]) (shOf shon) Tryz.f151 [ZT2] n 0 [(1,sy (.string (bs t1))),(2,.pointer (some ⟨10,0,none⟩)),(4,.pointer (some ⟨11,0,none⟩)),(5,sy (.int .i64 t5))] [.row [sy (.int .i64 t2_0),sy (.int .i64 t2_1)] 132 false,.row [sy (.int .i64 t4_0),sy (.int .i64 t4_1)] 132 false]
noncomputable def oon (x:DenL [ZT2,.str]):Option (DenL [ZT2]):=fO Tryz.prog (envS [(206,zaddS),(207,zmulS)]) (shOf shon) Tryz.f151 [ZT2,.str] [ZT2] x
theorem eon_g (a b:Int) (s:List UInt8):∀N:Nat,fON Tryz.prog (envS [(206,zaddS),(207,zmulS)]) (shOf shon) Tryz.f151 [ZT2,.str] [ZT2] N ((a,b,()),s,())=hon_0 N s a b 0 0 0:=fun N=>by kernel_rfl
theorem oon_g (x:DenL [ZT2,.str]):oon x=fON Tryz.prog (envS [(206,zaddS),(207,zmulS)]) (shOf shon) Tryz.f151 [ZT2,.str] [ZT2] heads0 x:=rfl
def onStep (a b:Int) (c:UInt8):ZW:=zaddN (zmulN (a,b,()) (3,5,())) ((c.toNat:Int)+1,0,())
theorem eon_0 (n:Nat) (t1:List UInt8) (a b c d i:Int):hon_0 (n+1) t1 a b c d i=
 (bif decide (i<(t1.length:Int)) then gd [decide (inK .i64 (i+1)),zB (zmulN (a,b,()) (3,5,()))&&zB (((t1.getD i.toNat 0).toNat:Int)+1,0,()),decide (inK .i64 (((t1.getD i.toNat 0).toNat:Int)+1)),decide (inK .i64 ((t1.getD i.toNat 0).toNat:Int)),decide (0≤i),decide (i<(t1.length:Int)),zB (a,b,())&&zB (3,5,())]
  (hon_0 n t1 (onStep a b (t1.getD i.toNat 0)).1 (onStep a b (t1.getD i.toNat 0)).2.1 c d (i+1)) else some ((a,b,()),())):=by kernel_rfl
theorem on_l (s:List UInt8) (hs:s.length≤140737488355328):∀(r i n:Nat) (a b c d:Int),s.length=i+r→r<n→zB (a,b,())=true→hon_0 n s a b c d (i:Int)=some (onN (a,b,()) (s.drop i),()):=by
 intro r
 induction r with
 |zero=>
  intro i n a b c d hi hn hz;obtain⟨n,rfl⟩:∃k,n=k+1:=⟨n-1,by omega⟩
  rw[eon_0,cdF (by omega),List.drop_eq_nil_of_le (by omega)];rfl
 |succ r ih=>
  intro i n a b c d hi hn hz;obtain⟨n,rfl⟩:∃k,n=k+1:=⟨n-1,by omega⟩
  have hl:i<s.length:=by omega
  have hb:((s.getD i 0).toNat:Int)≤255:=by have:=(s.getD i 0).toNat_lt;omega
  have hb0:(0:Int)≤((s.getD i 0).toNat:Int):=by omega
  have hd:s.drop i=s.getD i 0::s.drop (i+1):=by
   rw[List.drop_eq_getElem_cons hl,List.getD_eq_getElem?_getD,List.getElem?_eq_getElem hl];rfl
  have hst:=zadd_b (zmulN (a,b,()) (3,5,())) (((s.getD i 0).toNat:Int)+1,0,());have hz2:zB (((s.getD i 0).toNat:Int)+1,0,())=true:=zB_iff.2 ⟨by show(0:Int)≤_+1;omega,by show _+(1:Int)≤_;omega,Int.le_refl 0,(by decide:(0:Int)≤70000)⟩;have key:=ih (i+1) n (onStep a b (s.getD i 0)).1 (onStep a b (s.getD i 0)).2.1 c d (by omega) (by omega) hst
  rw[eon_0,cdT (by omega),show(i:Int).toNat=i from rfl,gdT (inK_i64.2 ⟨by omega,by omega⟩),gdB (by rw[zmul_b,hz2];rfl),gdT (inK_i64.2 ⟨by omega,by omega⟩),gdT (inK_i64.2 ⟨by omega,by omega⟩),gdT (by omega),gdT (by omega),gdB (by rw[hz];rfl),gd_nil];simp only[Int.natCast_add,Int.natCast_one] at key;rw[key,hd];rfl
theorem on_c:PC 151 onS:=(pureO (sh:=shOf shon) (envS_ok (l:=[(206,zaddS),(207,zmulS)]) ⟨zadd_c,zmul_c,trivial⟩) gl_ne Tryz.func151 (by kernel_rfl) (by decide)).nice fun⟨⟨a,b,()⟩,s,()⟩ h=>by
 have h:(zB (a,b,())&&bndS s)=true:=h;rw[Bool.and_eq_true] at h;have hs:s.length≤140737488355328:=of_decide_eq_true h.2;show oon _=_;rw[oon_g,eon_g];exact on_l s hs s.length 0 heads0 a b 0 0 (by omega) (by unfold heads0;omega) h.1
noncomputable def ofour (x:DenL [.int .i64]):Option (DenL [.str]):=fO Tryz.prog (envS []) (shOf []) Tryz.f150 [.int .i64] [.str] x
theorem efour (n:Int):ofour (n,())=gd [decide (0≤n.tmod 16),decide (n.tmod 16<16),decide (0≤(n.tdiv 16).tmod 16),decide ((n.tdiv 16).tmod 16<16),decide (inK .i64 (n.tdiv 16)),decide (0≤(n.tdiv 256).tmod 16),decide ((n.tdiv 256).tmod 16<16),decide (inK .i64 (n.tdiv 256)),decide (0≤(n.tdiv 4096).tmod 16),decide ((n.tdiv 4096).tmod 16<16),decide (inK .i64 (n.tdiv 4096))] (some (fourN n,())):=by kernel_rfl
theorem four_c:PC 150 fourS:=(pureO (envS_ok (l:=[]) trivial) gl_ne Tryz.func150 (by kernel_rfl) (by decide)).nice fun⟨n,()⟩ h=>by
 obtain⟨h0,h1⟩:0≤n∧n≤70000:=of_decide_eq_true h;obtain⟨a1,a2⟩:=tdiv_bd h0 h1 (by decide:(1:Int)≤16);obtain⟨b1,b2⟩:=tdiv_bd h0 h1 (by decide:(1:Int)≤256);obtain⟨c1,c2⟩:=tdiv_bd h0 h1 (by decide:(1:Int)≤4096);have m0:=tmod16 h0;have m1:=tmod16 a1;have m2:=tmod16 b1;have m3:=tmod16 c1;show ofour _=_;rw[efour,gdT m0.1,gdT m0.2,gdT m1.1,gdT m1.2,gdT (inK_i64.2 ⟨by omega,by omega⟩),gdT m2.1,gdT m2.2,gdT (inK_i64.2 ⟨by omega,by omega⟩),gdT m3.1,gdT m3.2,gdT (inK_i64.2 ⟨by omega,by omega⟩),gd_nil]
noncomputable def otext (x:DenL [ZT2]):Option (DenL [.str]):=fO Tryz.prog (envS [(150,fourS)]) (shOf []) Tryz.f106 [ZT2] [.str] x
theorem etext (a b:Int):otext ((a,b,()),())=gd [decide ((fourN a).length+(fourN b).length≤1099511627776),fourP b,fourP a] (some (fourN a++fourN b,())):=by kernel_rfl
theorem text_c:PC 106 textS:=(pureO (envS_ok (l:=[(150,fourS)]) ⟨four_c,trivial⟩) gl_ne Tryz.func106 (by kernel_rfl) (by decide)).nice fun⟨⟨a,b,()⟩,()⟩ h=>by
 obtain⟨h1,h2,h3,h4⟩:=zB_iff.1 h;show otext _=_;rw[etext,gdT (show(fourN a).length+(fourN b).length≤1099511627776 from(by decide:4+4≤1099511627776)),gdB (show fourP b=true from decide_eq_true ⟨h3,h4⟩),gdB (show fourP a=true from decide_eq_true ⟨h1,h2⟩),gd_nil];rfl
noncomputable def omark (x:DenL [.str]):Option (DenL [ZT2]):=fO Tryz.prog (envS [(151,onS)]) (shOf []) Tryz.f107 [.str] [ZT2] x
theorem emark (s:List UInt8):omark (s,())=gd [zB (0,1,())&&bndS s] (some (onN (0,1,()) s,())):=by kernel_rfl
theorem mark_c:PC 107 markS:=(pureO (envS_ok (l:=[(151,onS)]) ⟨on_c,trivial⟩) gl_ne Tryz.func107 (by kernel_rfl) (by decide)).nice fun⟨s,()⟩ h=>by
 have h:bndS s=true:=h;show omark _=_;rw[emark,gdB (by rw[h];rfl),gd_nil];rfl
noncomputable def otag (x:DenL [.str]):Option (DenL [.str]):=fO Tryz.prog (envS [(106,textS),(107,markS)]) (shOf []) Tryz.f62 [.str] [.str] x
theorem etag (s:List UInt8):otag (s,())=gd [zB (markN s),bndS s] (some (tagN s,())):=by kernel_rfl
theorem tag_c:PC 62 tagS:=(pureO (envS_ok (l:=[(106,textS),(107,markS)]) ⟨text_c,mark_c,trivial⟩) gl_ne Tryz.func62 (by kernel_rfl) (by decide)).nice fun⟨s,()⟩ h=>by
 have h:bndS s=true:=h;show otag _=_;rw[etag,gdB (show zB (markN s)=true from on_b s _ (by decide)),gdB h,gd_nil]
end Go.Proofs.YtldllfocpadkeaaGreatDoor
namespace Nice
open Go Go.Eng
theorem dig1_eq {n k:Nat} {i:Int} (hn:n<65536) (hk:(4*i).toNat=k) (h12:k≤12):dig1 (n:Int) i=((n/2^k%16:Nat):Int):=by
 unfold dig1;rw[hk,Nat.min_eq_left (by omega)];have e1:((n:Int).fdiv (2^k))=((n/2^k:Nat):Int):=by
  have hp:(2:Int)^k=((2^k:Nat):Int):=by rw[Int.natCast_pow];rfl
  rw[hp,Int.fdiv_eq_ediv_of_nonneg _ (Int.natCast_nonneg _),Int.natCast_ediv]
 have hm:n/2^k≤n:=Nat.div_le_self ..;rw[e1];generalize n/2^k=q at hm⊢;have e2:((q:Int)%18446744073709551616).toNat=q:=by omega
 have e3:Nat.bitwise and q 15=q%16:=Nat.and_two_pow_sub_one_eq_mod q 4;rw[e2,e3,wrap_inK (inK_i64.2 ⟨by omega,by omega⟩),wrap_inK (inK_u8.2 ⟨by omega,by omega⟩)]
theorem chr_all:(List.range 16).all (fun d=>chr1 (d:Int)==hexD (d:Int))=true:=by kernel_rfl
theorem chr_eq {d:Nat} (h:d<16):chr1 (d:Int)=hexD (d:Int):=beq_iff_eq.1 (List.all_eq_true.1 chr_all d (List.mem_range.2 h))
theorem four_eq {n:Nat} (hn:n<65536):fourN (n:Int)=[chr1 (dig1 (n:Int) 3),chr1 (dig1 (n:Int) 2),chr1 (dig1 (n:Int) 1),chr1 (dig1 (n:Int) 0)]:=by
 rw[dig1_eq (k:=12) hn rfl (by decide),dig1_eq (k:=8) hn rfl (by decide),dig1_eq (k:=4) hn rfl (by decide),dig1_eq (k:=0) hn rfl (by decide),chr_eq (Nat.mod_lt _ (by decide)),chr_eq (Nat.mod_lt _ (by decide)),chr_eq (Nat.mod_lt _ (by decide)),chr_eq (Nat.mod_lt _ (by decide))];have t:∀a b:Nat,((a:Int).tdiv (b:Int)).tmod 16=((a/b%16:Nat):Int):=fun a b=>by
  rw[Int.tdiv_eq_ediv_of_nonneg (Int.natCast_nonneg a),←Int.natCast_ediv,Int.tmod_eq_emod_of_nonneg (Int.natCast_nonneg _)];rfl
 unfold fourN;have t0:((n:Int)).tmod 16=((n/1%16:Nat):Int):=by
  rw[Int.tmod_eq_emod_of_nonneg (Int.natCast_nonneg _),Nat.div_one];rfl
 rw[t0,show((n:Int).tdiv 4096).tmod 16=_ from t n 4096,show((n:Int).tdiv 256).tmod 16=_ from t n 256,show((n:Int).tdiv 16).tmod 16=_ from t n 16]
theorem stepH_n {n:Nat} {i:Int} {o:List UInt8} {nx:List UInt8→TO} {fin:TO} (h0:0≤i) (h3:i≤3) (ho:o.length≤100):stepH (n:Int) i o nx fin=nx (o++[chr1 (dig1 (n:Int) i)]):=by
 unfold stepH chr1;rw[cdT h0,gdT (by omega),gdT (inK_i64.2 ⟨by omega,by omega⟩),xG];by_cases h:dig1 (n:Int) i<10
 ·rw[cdT h,cdT h,gdT (inK_i64.2 ⟨by omega,by omega⟩),gdT (by rw[List.length_singleton];omega),gdT (inK_u8.2 (by rw[wrap_u8];omega)),xG]
 ·rw[cdF h,cdF h,gdT (inK_i64.2 ⟨by omega,by omega⟩),gdT (by rw[List.length_singleton];omega),gdT (inK_u8.2 (by rw[wrap_u8];omega)),xG]
theorem stepH_f {n i:Int} {o:List UInt8} {nx:List UInt8→TO} {fin:TO} (h0:¬i≥0):stepH n i o nx fin=fin:=by
 unfold stepH;rw[cdF h0]
end Nice
namespace Go.Proofs.YtldllfocpadkeaaGreatDoor
open Go Go.Eng Nice Go.RowKit
set_option maxRecDepth 1000000
theorem gt_0 (k:Nat) (t o:List UInt8) {n:Nat} (hn:n<65536) (ho:o.length≤50) (a b:Nat):hgt (k+5) 0 t o (n:Int) 3 a b=gd [(fIv b .i64).isSome] (hgt k 1 t (o++fourN (n:Int)) ((fIv b .i64).getD 0) 3 a b):=by
 have l:∀(o:List UInt8) (x:UInt8),(o++[x]).length=o.length+1:=fun o x=>by rw[List.length_append];rfl
 rw[egt_0,stepH_n (by decide) (by decide) (by omega)];show hgt (k+4) 0 t (o++[chr1 (dig1 (n:Int) 3)]) (n:Int) 2 a b=_;rw[egt_0,stepH_n (by decide) (by decide) (by rw[l];omega)];show hgt (k+3) 0 t (o++[chr1 (dig1 (n:Int) 3)]++[chr1 (dig1 (n:Int) 2)]) (n:Int) 1 a b=_;rw[egt_0,stepH_n (by decide) (by decide) (by rw[l,l];omega)]
 show hgt (k+2) 0 t (o++[chr1 (dig1 (n:Int) 3)]++[chr1 (dig1 (n:Int) 2)]++[chr1 (dig1 (n:Int) 1)]) (n:Int) 0 a b=_;rw[egt_0,stepH_n (by decide) (by decide) (by rw[l,l,l];omega)];show hgt (k+1) 0 t (o++[chr1 (dig1 (n:Int) 3)]++[chr1 (dig1 (n:Int) 2)]++[chr1 (dig1 (n:Int) 1)]++[chr1 (dig1 (n:Int) 0)]) (n:Int) (-1) a b=_
 rw[egt_0,stepH_f (by decide),four_eq hn];simp only[List.append_assoc,List.cons_append,List.nil_append]
theorem gt_1 (k:Nat) (t o:List UInt8) {n:Nat} (hn:n<65536) (ho:o.length≤50) (a b:Nat):hgt (k+5) 1 t o (n:Int) 3 a b=some (o++fourN (n:Int),()):=by
 have l:∀(o:List UInt8) (x:UInt8),(o++[x]).length=o.length+1:=fun o x=>by rw[List.length_append];rfl
 rw[egt_1,stepH_n (by decide) (by decide) (by omega)];show hgt (k+4) 1 t (o++[chr1 (dig1 (n:Int) 3)]) (n:Int) 2 a b=_;rw[egt_1,stepH_n (by decide) (by decide) (by rw[l];omega)];show hgt (k+3) 1 t (o++[chr1 (dig1 (n:Int) 3)]++[chr1 (dig1 (n:Int) 2)]) (n:Int) 1 a b=_;rw[egt_1,stepH_n (by decide) (by decide) (by rw[l,l];omega)]
 show hgt (k+2) 1 t (o++[chr1 (dig1 (n:Int) 3)]++[chr1 (dig1 (n:Int) 2)]++[chr1 (dig1 (n:Int) 1)]) (n:Int) 0 a b=_;rw[egt_1,stepH_n (by decide) (by decide) (by rw[l,l,l];omega)];show hgt (k+1) 1 t (o++[chr1 (dig1 (n:Int) 3)]++[chr1 (dig1 (n:Int) 2)]++[chr1 (dig1 (n:Int) 1)]++[chr1 (dig1 (n:Int) 0)]) (n:Int) (-1) a b=_
 rw[egt_1,stepH_f (by decide),four_eq hn];simp only[List.append_assoc,List.cons_append,List.nil_append]
theorem heads_10:∃m,heads0=m+5+5:=⟨heads0-10,by unfold heads0;omega⟩
theorem gtext_c:PC 144 gtextS:=(pureO (sh:=shOf shgt) (envS_ok (l:=[(201,mayS)]) ⟨may_c,trivial⟩) gl_ne Tryz.func144 (by kernel_rfl) (by decide)).nice fun⟨z,()⟩ h=>by
 obtain⟨a,b,ha,hb,rfl⟩:=okC_iff h;obtain⟨m1,m2⟩:=may_ok ha.1 ha.2 hb.1 hb.2;obtain⟨n,rfl⟩:∃n:Nat,a=(n:Int):=⟨a.toNat,by omega⟩
 obtain⟨m,rfl⟩:∃n:Nat,b=(n:Int):=⟨b.toNat,by omega⟩
 obtain⟨K,hK⟩:=heads_10;show ogt _=some (fourN (un (fN (n:Int)))++fourN (un (fN (m:Int))),());rw[ogt_g,egt_g,m2,xT,fint (by omega),gdB (b:=(some (n:Int)).isSome) rfl,gdB m1,xG,Option.getD_some,hK,gt_0 _ _ _ (by omega) (by decide),fint (by omega),gdB (b:=(some (m:Int)).isSome) rfl,xG,Option.getD_some,gt_1 _ _ _ (by omega) (by show([]++fourN (n:Int)).length≤50;exact(by decide:4≤50)),un_fN (by omega),un_fN (by omega)]
 rfl
noncomputable def ogtag (x:DenL [.str]):TO:=fO Tryz.prog (envS [(144,gtextS),(145,gmarkS)]) (shOf []) Tryz.f99 [.str] [.str] x
theorem egtag (s:List UInt8):ogtag (s,())=gd [okC (cf (markN s)),bndS s] (some (textN (cz (cf (markN s))),())):=by kernel_rfl
theorem on_m:∀(s:List UInt8) (z:ZW),(0≤z.1∧z.1<65521)∧(0≤z.2.1∧z.2.1<65521)→(0≤(onN z s).1∧(onN z s).1<65521)∧(0≤(onN z s).2.1∧(onN z s).2.1<65521)
 |[],_,h=>h
 |c::s,z,_=>on_m s (stepZ z c) (zadd_m _ _)
theorem gtag_c:PC 99 gtagS:=(pureO (envS_ok (l:=[(144,gtextS),(145,gmarkS)]) ⟨gtext_c,gmark_c,trivial⟩) gl_ne Tryz.func99 (by kernel_rfl) (by decide)).nice fun⟨s,()⟩ h=>by
 have h:bndS s=true:=h;obtain⟨h1,h2⟩:=on_m s (0,1,()) ⟨by decide,by decide⟩;show ogtag _=some (textN (markN s),());have o:okC (cf (markN s))=true:=okC_cf h1 h2;have e:cz (cf (markN s))=markN s:=cz_cf h1 h2;rw[egtag,gdB o,gdB h,xG,e]
end Go.Proofs.YtldllfocpadkeaaGreatDoor
namespace Nice
open Go Go.Eng
abbrev BS:Type:=Option (DenL [.str])
def sO (s:List UInt8):BS:=some (s,())
def verL:List UInt8:=[60,118,101,114,115,105,111,110,32,105,100,61,34]
def tagL:List UInt8:=[34,32,116,97,103,61,34]
def cloL:List UInt8:=[34,47,62]
def goneL:List UInt8:=[103,111,110,101]
def nameL:List UInt8:=[60,110,97,109,101,62]
def nameE:List UInt8:=[60,47,110,97,109,101,62]
def keyL:List UInt8:=[60,107,101,121,62]
def keyE:List UInt8:=[60,47,107,101,121,62]
def kenL:List UInt8:=[60,107,101,121,62,60,110,97,109,101,62]
def begL:List UInt8:=[60,108,105,115,116,62]
def endL:List UInt8:=[60,47,108,105,115,116,62]
def nextL:List UInt8:=[60,110,101,120,116,62]
def nextE:List UInt8:=[60,47,110,101,120,116,62]
def verY (d m:List UInt8):List UInt8:=verL++d++tagL++m++cloL
def mkV (v:VerD):List UInt8:=bif v.2.1 then goneL else tagN v.2.2.1
def verX (v:VerD):List UInt8:=verY (fmtN v.1) (mkV v)
def versX (l:List VerD):List UInt8:=l.reverse.flatMap verX
def entX (e:EntD):List UInt8:=kenL++e.1++nameE++versX e.2.1++keyE
def nameX (k:List UInt8):List UInt8:=nameL++k++nameE
def nextX (m:Bool) (x:List UInt8):List UInt8:=bif m then nextL++x++nextE else []
def bodyX (s:ShD):List UInt8:=begL++s.1.flatMap nameX++s.2.1.flatMap entX++nextX s.2.2.1 s.2.2.2.1++endL
def sputN (s:ShD):List UInt8:=bif smayN s then bodyX s else []
noncomputable def entXS:PSpec:=⟨[EntT],[.str],fun x=>entB x.1,fun x=>(entX x.1,())⟩
noncomputable def sputS:PSpec:=⟨[ShT],[.str],fun x=>smayP x.1,fun x=>(sputN x.1,())⟩
theorem mkV_len (v:VerD):(mkV v).length≤8:=by
 unfold mkV;cases v.2.1
 ·rw[xF,tagN_len];exact Nat.le_refl _
 ·exact(by decide:goneL.length≤8)
theorem verY_len (d m:List UInt8):(verY d m).length=23+d.length+m.length:=by
 unfold verY;simp only[List.length_append,show verL.length=13 from rfl,show tagL.length=7 from rfl,show cloL.length=3 from rfl];omega
theorem verX_len {v:VerD} (h:verBW v=true):(verX v).length≤51:=by
 have h1:=mkV_len v;unfold verBW at h;rw[Bool.and_eq_true,Bool.and_eq_true,decide_eq_true_eq,decide_eq_true_eq] at h;have:=Go.Proofs.YtldllfocpadkeaaGreatDoor.fmt_len (n:=v.1) (by omega) h.2.1;unfold verX;rw[verY_len];omega
theorem riseV_mem:∀(l:List VerD) (last:Int),riseV last l=true→∀v,v∈l→verBW v=true
 |[],_,_,v,h=>by cases h
 |a::l,last,h,v,hv=>by
  rw[riseV_cons,Bool.and_eq_true,Bool.and_eq_true] at h;rcases List.mem_cons.1 hv with rfl|hv
  ·exact h.1
  ·exact riseV_mem l a.1 h.2.2 v hv
theorem entB_iff {e:EntD}:entB e=true↔riseV 0 e.2.1=true∧isKey e.1=true∧1≤e.2.1.length∧e.2.1.length≤12:=by
 unfold entB;rw[Bool.and_eq_true,Bool.and_eq_true,Bool.and_eq_true,decide_eq_true_eq,decide_eq_true_eq]
theorem versX_snoc (l:List VerD) (v:VerD):versX (l++[v])=verX v++versX l:=by
 unfold versX;rw[List.reverse_append];rfl
theorem versX_len:∀(l:List VerD),(∀v,v∈l→verBW v=true)→(versX l).length≤51*l.length
 |[],_=>Nat.le_refl _
 |v::l,h=>by
  have h1:=versX_len l fun u hu=>h u (List.mem_cons_of_mem _ hu)
  have h2:=verX_len (h v List.mem_cons_self);have e:versX (v::l)=versX l++verX v:=by
   unfold versX;rw[List.reverse_cons,List.flatMap_append];simp
  rw[e,List.length_append,List.length_cons];omega
theorem entX_len {e:EntD} (h:entB e=true):(entX e).length≤700:=by
 obtain⟨h1,h2,_,h3⟩:=entB_iff.1 h;have:=versX_len e.2.1 (riseV_mem _ _ h1);have:=isKey_bnd h2;unfold entX;simp only[List.length_append,show kenL.length=11 from rfl,show nameE.length=7 from rfl,show keyE.length=6 from rfl];omega
noncomputable abbrev gV (t:List UInt8) (i:Int) (d m:List UInt8):List Bool:=[decide (inK .i64 (i-1)),decide (t.length+(verY d m).length≤1099511627776),decide ((verL++d++tagL++m).length+3≤1099511627776),decide ((verL++d++tagL).length+m.length≤1099511627776),decide ((verL++d).length+7≤1099511627776),decide (13+d.length≤1099511627776)]
theorem gV_ok {t d m:List UInt8} {i:Int} (h1:0≤i) (h2:i≤1099511627776) (ht:t.length≤549755813888) (hd:d.length≤20) (hm:m.length≤8) {α:Type} (q:List Bool) (y:Option α):gd (gV t i d m++q) y=gd q y:=by
 have e1:=verY_len d m;have e2:(verL++d++tagL++m).length=20+d.length+m.length:=by
  simp only[List.length_append,show verL.length=13 from rfl,show tagL.length=7 from rfl];omega
 have e3:(verL++d++tagL).length=20+d.length:=by
  simp only[List.length_append,show verL.length=13 from rfl,show tagL.length=7 from rfl];omega
 have e4:(verL++d).length=13+d.length:=by
  simp only[List.length_append,show verL.length=13 from rfl]
 unfold gV;simp only[List.cons_append,List.nil_append];rw[gdT (inK_i64.2 ⟨by omega,by omega⟩),gdT (by omega),gdT (by omega),gdT (by omega),gdT (by omega),gdT (by omega)]
noncomputable def stepSE (l:List VerD) (t:List UInt8) (i:Int) (nx:List UInt8→BS):BS:=
 bif decide (i≥0) then gd [bndS (l.getD i.toNat (VerT).dflt).2.2.1,decide (i.toNat<l.length),decide (0≤i),decide (i<(l.length:Int))] (bif (l.getD i.toNat (VerT).dflt).2.1 then
     gd (gV t i (fmtN (l.getD i.toNat (VerT).dflt).1) goneL++[fmtIS.pre ((l.getD i.toNat (VerT).dflt).1,10,())]) (nx (t++verY (fmtN (l.getD i.toNat (VerT).dflt).1) goneL))
  else gd (gV t i (fmtN (l.getD i.toNat (VerT).dflt).1) (tagN (l.getD i.toNat (VerT).dflt).2.2.1)++[fmtIS.pre ((l.getD i.toNat (VerT).dflt).1,10,())]) (nx (t++verY (fmtN (l.getD i.toNat (VerT).dflt).1) (tagN (l.getD i.toNat (VerT).dflt).2.2.1))))
 else gd [decide (t.length+6≤1099511627776)] (sO (t++keyE))
end Nice
namespace Go.Proofs.YtldllfocpadkeaaGreatDoor
open Go Go.Eng Nice Go.RowKit
set_option maxRecDepth 1000000
abbrev shse:List (Nat×List (Nat×Sh)):=[(3,[(1,(.obj [.sym,(.dat VerT)])),(2,(.one .sym)),(3,(.one .sym)),(4,(.one .sym))])]
noncomputable def hse (N:Nat) (k:List UInt8) (l:List VerD) (t:List UInt8) (i:Int):BS:=rH Tryz.prog (envS [(99,gtagS),(80,fmtIS)]) (shOf shse) Tryz.f104 [.str] N 0 [(1,.pointer (some ⟨11,0,none⟩)),(2,sy (.string (bs []))),(3,sy (.string (bs t))),(4,sy (.int .i64 i))] [.dat VerT l,.row [sy (.string (bs k)),dt 10] 44 false]
noncomputable def ose (x:DenL [EntT]):BS:=fO Tryz.prog (envS [(99,gtagS),(80,fmtIS)]) (shOf shse) Tryz.f104 [EntT] [.str] x
theorem ose_g (x:DenL [EntT]):ose x=fON Tryz.prog (envS [(99,gtagS),(80,fmtIS)]) (shOf shse) Tryz.f104 [EntT] [.str] heads0 x:=rfl
theorem ese_g (N:Nat) (k:List UInt8) (l:List VerD):fON Tryz.prog (envS [(99,gtagS),(80,fmtIS)]) (shOf shse) Tryz.f104 [EntT] [.str] N ((k,l,()),())=gd [decide (inK .i64 ((l.length:Int)-1)),decide ((kenL++k).length+7≤1099511627776),decide (11+k.length≤1099511627776)] (hse N k l (kenL++k++nameE) ((l.length:Int)-1)):=by kernel_rfl
theorem ese_0 (N:Nat) (k:List UInt8) (l:List VerD) (t:List UInt8) (i:Int):hse (N+1) k l t i=stepSE l t i (fun t'=>hse N k l t' (i-1)):=by kernel_rfl
theorem se_l (k:List UInt8) (l:List VerD) (hl:l.length≤12) (hv:∀v,v∈l→verBW v=true):∀(j N:Nat) (t:List UInt8),j≤l.length→j<N→t.length+100*j≤549755813888→hse N k l t ((j:Int)-1)=some (t++versX (l.take j)++keyE,()):=by
 intro j
 induction j with
 |zero=>
  intro N t _ hN ht;obtain⟨N,rfl⟩:∃m,N=m+1:=⟨N-1,by omega⟩
  rw[ese_0];unfold stepSE;rw[cdF (by omega),gdT (by omega),xG,List.take_zero];show sO _=sO (t++[]++keyE);rw[List.append_nil]
 |succ j ih=>
  intro N t hj hN ht;obtain⟨N,rfl⟩:∃m,N=m+1:=⟨N-1,by omega⟩
  have hlt:j<l.length:=by omega
  have hm:l.getD j (VerT).dflt∈l:=by
   rw[List.getD_eq_getElem?_getD,List.getElem?_eq_getElem hlt];exact List.getElem_mem hlt
  have hb:=hv _ hm;have htk:l.take (j+1)=l.take j++[l.getD j (VerT).dflt]:=by
   rw[List.take_succ_eq_append_getElem hlt,List.getD_eq_getElem?_getD,List.getElem?_eq_getElem hlt];rfl
  have hvl:=verX_len hb;have this:=ih N (t++verX (l.getD j (VerT).dflt)) (by omega) (by omega) (by rw[List.length_append];omega);have hb':=hb;unfold verBW at hb';rw[Bool.and_eq_true,Bool.and_eq_true,Bool.and_eq_true,decide_eq_true_eq,decide_eq_true_eq,decide_eq_true_eq] at hb';obtain⟨b1,b2,b3,_⟩:=hb';have hf:=fmt_len (n:=(l.getD j (VerT).dflt).1) (by omega) b2
  have hmk:=mkV_len (l.getD j (VerT).dflt);have hbd:bndS (l.getD j (VerT).dflt).2.2.1=true:=by unfold bndS;exact decide_eq_true (by omega)
  have hpre:fmtIS.pre ((l.getD j (VerT).dflt).1,10,())=true:=by
   show(i64P (l.getD j (VerT).dflt).1&&(10:Int)==10)=true;rw[i64P_iff.2 ⟨by omega,by omega⟩];rfl
  rw[ese_0];unfold stepSE;rw[cdT (by omega),show(((j+1:Nat):Int)-1)=(j:Int) by omega,show(j:Int).toNat=j from rfl,gdB hbd,gdT hlt,gdT (by omega),gdT (by omega),xG,htk,versX_snoc,←List.append_assoc t,←this];unfold verX mkV at hmk⊢;cases hg:(l.getD j (VerT).dflt).2.1
  ·rw[hg] at hmk;rw[xF,gV_ok (by omega) (by omega) (by omega) hf (by exact hmk),gdB hpre,xG];rfl
  ·rw[xT,gV_ok (by omega) (by omega) (by omega) hf (by decide),gdB hpre,xG];rfl
theorem se_c:PC 104 entXS:=(pureO (sh:=shOf shse) (envS_ok (l:=[(99,gtagS),(80,fmtIS)]) ⟨gtag_c,fmtI_c,trivial⟩) gl_ne Tryz.func104 (by kernel_rfl) (by decide)).nice fun⟨⟨k,l,()⟩,()⟩ h=>by
 obtain⟨h1,h2,h3,h4⟩:=entB_iff.1 h;have h2:=isKey_bnd h2;have h2:k.length≤40:=h2;have h4:l.length≤12:=h4;show ose _=some (entX (k,l,()),());have e1:(kenL++k).length=11+k.length:=by rw[List.length_append];rfl
 have e2:(kenL++k++nameE).length=18+k.length:=by rw[List.length_append,e1,show nameE.length=7 from rfl];omega
 rw[ose_g,ese_g,gdT (inK_i64.2 ⟨by omega,by omega⟩),gdT (by omega),gdT (by omega),xG,se_l k l h4 (riseV_mem _ _ h1) l.length heads0 _ (Nat.le_refl _) (by unfold heads0;omega) (by omega),List.take_length];rfl
end Go.Proofs.YtldllfocpadkeaaGreatDoor
namespace Nice
open Go Go.Eng
abbrev RdO:OT:=.pair (.d .str) (.pair (.d .bool) .unit)
abbrev RdD:Type:=List UInt8×Bool×Unit
def isR (s l:List UInt8):List UInt8:=bif hasPre s l then s.drop l.length else s
def upR (s l:List UInt8):List UInt8:=bif (Lib.cut s l).2.2 then(Lib.cut s l).2.1 else []
def upB (b:Bool) (s l:List UInt8):Bool:=bif (Lib.cut s l).2.2 then b else true
def upT (s l:List UInt8):List UInt8:=bif (Lib.cut s l).2.2 then(Lib.cut s l).1 else []
noncomputable def isS:OSpec:=⟨true,0,RdO,241,[.d .str],[.d .bool],fun _ _=>true,fun x y=>((isR x.1 y.1,x.2.1,()),hasPre x.1 y.1,())⟩
def badV (nu mk:List UInt8):Bool:= !(intN nu).2||(!(fmtN (intN nu).1==nu)||(!(gRead mk).2&& !(mk==goneL)))
def newV (nu mk:List UInt8):VerD:=((intN nu).1,mk==goneL,[],())
abbrev vS1 (s:List UInt8):List UInt8:=isR s verL
abbrev vNu (s:List UInt8):List UInt8:=upT (vS1 s) tagL
abbrev vS2 (s:List UInt8):List UInt8:=upR (vS1 s) tagL
abbrev vMk (s:List UInt8):List UInt8:=upT (vS2 s) cloL
abbrev vS3 (s:List UInt8):List UInt8:=upR (vS2 s) cloL
abbrev vB3 (s:List UInt8):Bool:=upB (upB false (vS1 s) tagL) (vS2 s) cloL
def entV:Nat→List UInt8→List VerD→List UInt8×Bool×List VerD
 |0,s,l=>(s,true,l)
 |f+1,s,l=>bif hasPre s verL then(bif vB3 s||badV (vNu s) (vMk s) then(vS3 s,true,l++[newV (vNu s) (vMk s)]) else entV f (vS3 s) (l++[newV (vNu s) (vMk s)])) else(s,false,l)
abbrev eS1 (s:List UInt8):List UInt8:=isR s nameL
abbrev eK (s:List UInt8):List UInt8:=upT (eS1 s) nameE
abbrev eS2 (s:List UInt8):List UInt8:=upR (eS1 s) nameE
abbrev eB2 (s:List UInt8):Bool:=upB (!hasPre s nameL) (eS1 s) nameE
def entW (s:List UInt8):List UInt8×Bool×List VerD:=bif eB2 s then(eS2 s,true,[]) else entV ((eS2 s).length+1) (eS2 s) []
def entN (s:List UInt8):RdD×EntD×Unit:=((isR (entW s).1 keyE,(entW s).2.1|| !hasPre (entW s).1 keyE,()),(eK s,(entW s).2.2.reverse,()),())
end Nice
namespace Nice
open Go Go.Eng
noncomputable def begSP (s:ShD) (nx:List UInt8→BS):BS:=bif smayN s then gd [smayP s] (nx begL) else gd [smayP s] (sO [])
noncomputable abbrev gNW (t k:List UInt8) (i:Int):List Bool:=[decide (inK .i64 (i+1)),decide (t.length+(nameX k).length≤1099511627776),decide ((nameL++k).length+7≤1099511627776),decide (6+k.length≤1099511627776)]
theorem gN_ok {t k:List UInt8} {i:Int} (h1:0≤i) (h2:i≤1099511627776) (ht:t.length≤549755813888) (hk:k.length≤40) {α:Type} (q:List Bool) (y:Option α):gd (gNW t k i++q) y=gd q y:=by
 have e1:(nameX k).length=13+k.length:=by
  unfold nameX;rw[List.length_append,List.length_append,show nameL.length=6 from rfl,show nameE.length=7 from rfl];omega
 have e2:(nameL++k).length=6+k.length:=by rw[List.length_append,show nameL.length=6 from rfl]
 unfold gNW;simp only[List.cons_append,List.nil_append];rw[gdT (inK_i64.2 ⟨by omega,by omega⟩),gdT (by omega),gdT (by omega),gdT (by omega)]
noncomputable def stepP0 (k:List (List UInt8)) (t:List UInt8) (m i:Int) (nx:List UInt8→BS) (ex:BS):BS:=
 bif decide (i<m) then gd (gNW t (k.getD i.toNat Ty.str.dflt) i++gI k i) (nx (t++nameX (k.getD i.toNat Ty.str.dflt))) else ex
noncomputable def stepP1 (l:List EntD) (t:List UInt8) (m i:Int) (nx:List UInt8→BS) (ex:BS):BS:=
 bif decide (i<m) then gd ([decide (inK .i64 (i+1)),decide (t.length+(entX ((l.getD i.toNat (EntT).dflt).1,(l.getD i.toNat (EntT).dflt).2.1,())).length≤1099511627776),entB ((l.getD i.toNat (EntT).dflt).1,(l.getD i.toNat (EntT).dflt).2.1,())]++gI l i) (nx (t++entX ((l.getD i.toNat (EntT).dflt).1,(l.getD i.toNat (EntT).dflt).2.1,()))) else ex
noncomputable def exP (b:Bool) (x t:List UInt8):BS:=
 bif b then gd [decide ((t++(nextL++x++nextE)).length+7≤1099511627776),decide (t.length+(nextL++x++nextE).length≤1099511627776),decide ((nextL++x).length+7≤1099511627776),decide (6+x.length≤1099511627776)] (sO (t++(nextL++x++nextE)++endL))
 else gd [decide (t.length+7≤1099511627776)] (sO (t++endL))
theorem exP_n (b:Bool) {x t:List UInt8} (hx:x.length≤40) (ht:t.length≤549755813888):exP b x t=some (t++nextX b x++endL,()):=by
 have e1:(nextL++x++nextE).length=13+x.length:=by
  rw[List.length_append,List.length_append,show nextL.length=6 from rfl,show nextE.length=7 from rfl];omega
 have e2:(nextL++x).length=6+x.length:=by rw[List.length_append,show nextL.length=6 from rfl]
 have e3:(t++(nextL++x++nextE)).length=t.length+(13+x.length):=by rw[List.length_append,e1]
 unfold exP;cases b
 ·rw[xF,gdT (by omega),xG];show sO _=sO (t++[]++endL);rw[List.append_nil]
 ·rw[xT,gdT (by omega),gdT (by omega),gdT (by omega),gdT (by omega),xG];rfl
theorem smayN_iff {s:ShD} (h:smayN s=true):(∀k,k∈s.1→isKey k=true)∧(∀e,e∈s.2.1→entB e=true)∧s.1.length≤20∧s.2.1.length≤20∧s.2.2.2.1.length≤40:=by
 unfold smayN at h;rw[Bool.and_eq_true,Bool.and_eq_true,Bool.and_eq_true,Bool.and_eq_true,decide_eq_true_eq,List.all_eq_true] at h;obtain⟨_,h1,h2,h3,h4⟩:=h;have hkl:(keysN s.1 s.2.1).length=s.1.length+s.2.1.length:=by unfold keysN;rw[List.length_append,List.length_map]
 have hall:∀(l:List (List UInt8)) (t:List UInt8),riseK t l=true→∀k,k∈l→isKey k=true:=fun l=>by
  induction l with
  |nil=>intro t _ k hk;cases hk
  |cons a l ih=>
   intro t ht k hk;rw[riseK_cons,Bool.and_eq_true,Bool.and_eq_true] at ht;rcases List.mem_cons.1 hk with rfl|hk
   ·exact ht.1
   ·exact ih a ht.2.2 k hk
 have hlast:∀(l:List (List UInt8)) (t:List UInt8),t.length≤40→riseK t l=true→(lastK t l).length≤40:=fun l=>by
  induction l with
  |nil=>intro t ht _;exact ht
  |cons a l ih=>
   intro t _ ht;rw[riseK_cons,Bool.and_eq_true,Bool.and_eq_true] at ht;exact ih a (isKey_bnd ht.1) ht.2.2
 refine⟨fun k hk=>hall _ [] h1 k (List.mem_append_left _ hk),h2,by omega,by omega,?_⟩;cases hb:s.2.2.1
 ·rw[hb,xF,beq_iff_eq] at h4;rw[h4];exact Nat.zero_le _
 ·rw[hb,xT,Bool.and_eq_true,beq_iff_eq] at h4;rw[h4.2];exact hlast _ [] (Nat.zero_le _) h1
end Nice
namespace Go.Proofs.YtldllfocpadkeaaGreatDoor
open Go Go.Eng Nice Go.RowKit
set_option maxRecDepth 1000000
abbrev shsp:List (Nat×List (Nat×Sh)):=[(5,[(1,(.obj [(.dat .str),(.dat EntT),.sym,.sym])),(2,(.one .sym)),(3,(.one .sym)),(12,(.one (.dat .str))),(13,(.one .sym)),(14,(.one .sym))]),(10,[(1,(.obj [(.dat .str),(.dat EntT),.sym,.sym])),(2,(.one .sym)),(3,(.one .sym)),(25,(.one (.dat EntT))),(26,(.one .sym)),(27,(.one .sym))])]
noncomputable def hsp0 (N:Nat) (n:List (List UInt8)) (l:List EntD) (b:Bool) (x t:List UInt8) (k:List (List UInt8)) (m i:Int):BS:=rH Tryz.prog (envS [(103,smayS),(104,entXS)]) (shOf shsp) Tryz.f60 [.str] N 0 [(1,.pointer (some ⟨12,0,none⟩)),(2,sy (.string (bs []))),(3,sy (.string (bs t))),(12,dt 13),(13,sy (.int .i64 m)),(14,sy (.int .i64 i))] [.dat .str n,.dat EntT l,.row [dt 10,dt 11,.bool b,sy (.string (bs x))] 35 false,.dat .str k]
noncomputable def hsp1 (N:Nat) (n:List (List UInt8)) (l:List EntD) (b:Bool) (x t:List UInt8) (k:List EntD) (m i:Int):BS:=rH Tryz.prog (envS [(103,smayS),(104,entXS)]) (shOf shsp) Tryz.f60 [.str] N 1 [(1,.pointer (some ⟨12,0,none⟩)),(2,sy (.string (bs []))),(3,sy (.string (bs t))),(25,dt 13),(26,sy (.int .i64 m)),(27,sy (.int .i64 i))] [.dat .str n,.dat EntT l,.row [dt 10,dt 11,.bool b,sy (.string (bs x))] 35 false,.dat EntT k]
noncomputable def osp (x:DenL [ShT]):BS:=fO Tryz.prog (envS [(103,smayS),(104,entXS)]) (shOf shsp) Tryz.f60 [ShT] [.str] x
theorem osp_g (x:DenL [ShT]):osp x=fON Tryz.prog (envS [(103,smayS),(104,entXS)]) (shOf shsp) Tryz.f60 [ShT] [.str] heads0 x:=rfl
theorem espT_g (N:Nat) (n:List (List UInt8)) (l:List EntD) (x:List UInt8):fON Tryz.prog (envS [(103,smayS),(104,entXS)]) (shOf shsp) Tryz.f60 [ShT] [.str] N ((n,l,true,x,()),())=begSP (n,l,true,x,()) (fun t=>hsp0 N n l true x t n (n.length:Int) 0):=by kernel_rfl
theorem espF_g (N:Nat) (n:List (List UInt8)) (l:List EntD) (x:List UInt8):fON Tryz.prog (envS [(103,smayS),(104,entXS)]) (shOf shsp) Tryz.f60 [ShT] [.str] N ((n,l,false,x,()),())=begSP (n,l,false,x,()) (fun t=>hsp0 N n l false x t n (n.length:Int) 0):=by kernel_rfl
theorem esp0 (N:Nat) (n:List (List UInt8)) (l:List EntD) (b:Bool) (x t:List UInt8) (k:List (List UInt8)) (m i:Int):hsp0 (N+1) n l b x t k m i=stepP0 k t m i (fun t'=>hsp0 N n l b x t' k m (i+1)) (hsp1 N n l b x t l (l.length:Int) 0):=by kernel_rfl
theorem esp1 (N:Nat) (n:List (List UInt8)) (l:List EntD) (b:Bool) (x t:List UInt8) (k:List EntD) (m i:Int):hsp1 (N+1) n l b x t k m i=stepP1 k t m i (fun t'=>hsp1 N n l b x t' k m (i+1)) (exP b x t):=by kernel_rfl
theorem sp1_l (n:List (List UInt8)) (l:List EntD) (b:Bool) (x:List UInt8) (hx:x.length≤40) (hl:l.length≤20) (hp:∀e,e∈l→entB e=true):∀(r i N:Nat) (t:List UInt8),l.length=i+r→r<N→t.length+1000*r≤549755813888→hsp1 N n l b x t l (l.length:Int) (i:Int)=some (t++(l.drop i).flatMap entX++nextX b x++endL,()):=by
 intro r
 induction r with
 |zero=>
  intro i N t hi hN ht;obtain⟨N,rfl⟩:∃m,N=m+1:=⟨N-1,by omega⟩
  rw[esp1];unfold stepP1;rw[cdF (by omega),List.drop_eq_nil_of_le (by omega),exP_n b hx (by omega)];simp
 |succ r ih=>
  intro i N t hi hN ht;obtain⟨N,rfl⟩:∃m,N=m+1:=⟨N-1,by omega⟩
  have hlt:i<l.length:=by omega
  have hd:l.drop i=l.getD i (EntT).dflt::l.drop (i+1):=by
   rw[List.drop_eq_getElem_cons hlt,List.getD_eq_getElem?_getD,List.getElem?_eq_getElem hlt];rfl
  have hh:entB (l.getD i (EntT).dflt)=true:=hp _ (by
   rw[List.getD_eq_getElem?_getD,List.getElem?_eq_getElem hlt];exact List.getElem_mem hlt)
  have hel:=entX_len hh;have this:=ih (i+1) N (t++entX (l.getD i (EntT).dflt)) (by omega) (by omega) (by rw[List.length_append];omega);simp only[Int.natCast_add,Int.natCast_one] at this;rw[esp1];unfold stepP1;simp only[List.cons_append,List.nil_append];unfold gI;rw[cdT (by omega),show(i:Int).toNat=i from rfl,show((l.getD i (EntT).dflt).1,(l.getD i (EntT).dflt).2.1,())=l.getD i (EntT).dflt from rfl,gdT (inK_i64.2 ⟨by omega,by omega⟩),gdT (by omega),gdB hh,gdT hlt,gdT (by omega),gdT (by omega),xG,this,hd,List.flatMap_cons,List.append_assoc t]
theorem sp0_l (n:List (List UInt8)) (l:List EntD) (b:Bool) (x:List UInt8) (hx:x.length≤40) (hl:l.length≤20) (hp:∀e,e∈l→entB e=true) (hn:n.length≤20) (hk:∀k,k∈n→isKey k=true):∀(r i N:Nat) (t:List UInt8),n.length=i+r→r+l.length+2<N→t.length+100*r≤274877906944→hsp0 N n l b x t n (n.length:Int) (i:Int)=some (t++(n.drop i).flatMap nameX++l.flatMap entX++nextX b x++endL,()):=by
 intro r
 induction r with
 |zero=>
  intro i N t hi hN ht;obtain⟨N,rfl⟩:∃m,N=m+1:=⟨N-1,by omega⟩
  have:=sp1_l n l b x hx hl hp l.length 0 N t (by omega) (by omega) (by omega);rw[esp0];unfold stepP0;rw[cdF (by omega),List.drop_eq_nil_of_le (by omega)];refine Eq.trans this ?_;simp
 |succ r ih=>
  intro i N t hi hN ht;obtain⟨N,rfl⟩:∃m,N=m+1:=⟨N-1,by omega⟩
  have hlt:i<n.length:=by omega
  have hd:n.drop i=n.getD i []::n.drop (i+1):=by
   rw[List.drop_eq_getElem_cons hlt,List.getD_eq_getElem?_getD,List.getElem?_eq_getElem hlt];rfl
  have hh:=isKey_bnd (hk (n.getD i []) (by
   rw[List.getD_eq_getElem?_getD,List.getElem?_eq_getElem hlt];exact List.getElem_mem hlt))
  have e1:(nameX (n.getD i [])).length=13+(n.getD i []).length:=by
   unfold nameX;rw[List.length_append,List.length_append,show nameL.length=6 from rfl,show nameE.length=7 from rfl];omega
  have this:=ih (i+1) N (t++nameX (n.getD i [])) (by omega) (by omega) (by rw[List.length_append];omega);simp only[Int.natCast_add,Int.natCast_one] at this;rw[esp0];unfold stepP0;rw[cdT (by omega),show(i:Int).toNat=i from rfl,show n.getD i Ty.str.dflt=n.getD i [] from rfl,gN_ok (by omega) (by omega) (by omega) hh]
  unfold gI;rw[show(i:Int).toNat=i from rfl,gdT hlt,gdT (by omega),gdT (by omega),xG];refine Eq.trans this ?_;rw[hd,List.flatMap_cons,List.append_assoc t]
theorem sp_n {n:List (List UInt8)} {l:List EntD} {b:Bool} {x:List UInt8} (h:smayP (n,l,b,x,())=true):begSP (n,l,b,x,()) (fun t=>hsp0 heads0 n l b x t n (n.length:Int) 0)=some (sputN (n,l,b,x,()),()):=by
 unfold begSP sputN;rw[gdB h,gdB h,xG,xG];cases hm:smayN (n,l,b,x,())
 ·rfl
 ·obtain⟨h1,h2,h3,h4,h5⟩:=smayN_iff hm;have h3:n.length≤20:=h3;have h4:l.length≤20:=h4;have:=sp0_l n l b x h5 h4 h2 h3 h1 n.length 0 heads0 begL (by omega) (by unfold heads0;omega) (by rw[show begL.length=6 from rfl];omega);rw[List.drop_zero] at this;exact this
theorem sput_c:PC 60 sputS:=(pureO (sh:=shOf shsp) (envS_ok (l:=[(103,smayS),(104,entXS)]) ⟨smay_c,se_c,trivial⟩) gl_ne Tryz.func60 (by kernel_rfl) (by decide)).nice fun⟨⟨n,l,b,x,()⟩,()⟩ h=>by
 show osp _=some (sputN (n,l,b,x,()),());rw[osp_g];cases b
 ·rw[espF_g];exact sp_n h
 ·rw[espT_g];exact sp_n h
end Go.Proofs.YtldllfocpadkeaaGreatDoor
namespace Nice
open Go Go.Eng
abbrev eN (s:List UInt8):RdD×EntD×Unit:=entN (isR s keyL)
end Nice
namespace Nice
open Go Go.Eng
theorem hexD_all:(List.range 16).all (fun d=>isHx (hexD (d:Int))&&(hx (hexD (d:Int))==(d:Int)&&(hexD (d:Int) !=34&&hexD (d:Int) !=60)))=true:=by kernel_rfl
theorem hexD_n {d:Int} (h0:0≤d) (h1:d<16):isHx (hexD d)=true∧hx (hexD d)=d∧hexD d≠34:=by
 obtain⟨n,rfl⟩:∃n:Nat,d=(n:Int):=⟨d.toNat,by omega⟩
 have:=List.all_eq_true.1 hexD_all n (List.mem_range.2 (by omega));rw[Bool.and_eq_true,Bool.and_eq_true,Bool.and_eq_true,beq_iff_eq,bne_iff_ne] at this;exact⟨this.1,this.2.1,this.2.2.1⟩
theorem four_ds {n:Int} (h0:0≤n) (h1:n<65521):∃a b c d:Int,fourN n=[hexD a,hexD b,hexD c,hexD d]∧(0≤a∧a<16)∧(0≤b∧b<16)∧(0≤c∧c<16)∧(0≤d∧d<16)∧((((0*16+a)*16+b)*16+c)*16+d)=n:=by
 obtain⟨m,rfl⟩:∃m:Nat,n=(m:Int):=⟨n.toNat,by omega⟩
 refine⟨((m/4096%16:Nat):Int),((m/256%16:Nat):Int),((m/16%16:Nat):Int),((m%16:Nat):Int),rfl,⟨by omega,by omega⟩,⟨by omega,by omega⟩,⟨by omega,by omega⟩,⟨by omega,by omega⟩,by omega⟩
theorem rdF_cons {c:UInt8} (r:List UInt8) (i:Nat) (a b:Int) (h:isHx c=true):rdF (c::r) i a b=bif decide (i<4) then rdF r (i+1) (a*16+hx c) b else rdF r (i+1) a (b*16+hx c):=by
 show(bif isHx c then _ else none)=_;rw[h];rfl
theorem rdF_8 {a b c d e f g h:Int} (ha:0≤a∧a<16) (hb:0≤b∧b<16) (hc:0≤c∧c<16) (hd:0≤d∧d<16) (he:0≤e∧e<16) (hf:0≤f∧f<16) (hg:0≤g∧g<16) (hh:0≤h∧h<16):rdF [hexD a,hexD b,hexD c,hexD d,hexD e,hexD f,hexD g,hexD h] 0 0 0=some ((((0*16+a)*16+b)*16+c)*16+d,(((0*16+e)*16+f)*16+g)*16+h):=by
 rw[rdF_cons _ _ _ _ (hexD_n ha.1 ha.2).1,(hexD_n ha.1 ha.2).2.1,decide_eq_true (show 0<4 by decide),xT,
  rdF_cons _ _ _ _ (hexD_n hb.1 hb.2).1,(hexD_n hb.1 hb.2).2.1,decide_eq_true (show 0+1<4 by decide),xT,
  rdF_cons _ _ _ _ (hexD_n hc.1 hc.2).1,(hexD_n hc.1 hc.2).2.1,decide_eq_true (show 0+1+1<4 by decide),xT,
  rdF_cons _ _ _ _ (hexD_n hd.1 hd.2).1,(hexD_n hd.1 hd.2).2.1,decide_eq_true (show 0+1+1+1<4 by decide),xT,
  rdF_cons _ _ _ _ (hexD_n he.1 he.2).1,(hexD_n he.1 he.2).2.1,decide_eq_false (show ¬0+1+1+1+1<4 by decide),xF,
  rdF_cons _ _ _ _ (hexD_n hf.1 hf.2).1,(hexD_n hf.1 hf.2).2.1,decide_eq_false (show ¬0+1+1+1+1+1<4 by decide),xF,
  rdF_cons _ _ _ _ (hexD_n hg.1 hg.2).1,(hexD_n hg.1 hg.2).2.1,decide_eq_false (show ¬0+1+1+1+1+1+1<4 by decide),xF,
  rdF_cons _ _ _ _ (hexD_n hh.1 hh.2).1,(hexD_n hh.1 hh.2).2.1,decide_eq_false (show ¬0+1+1+1+1+1+1+1<4 by decide),xF]
 rfl
theorem tag_ok (b:List UInt8):(gRead (tagN b)).2=true∧(∀x,x∈tagN b→x≠34):=by
 have hm:=Go.Proofs.YtldllfocpadkeaaGreatDoor.on_m b (0,1,()) ⟨⟨by decide,by decide⟩,⟨by decide,by decide⟩⟩;obtain⟨⟨m1,m2⟩,⟨m3,m4⟩⟩:=hm;obtain⟨a,b',c,d,e1,ha,hb,hc,hd,v1⟩:=four_ds m1 m2;obtain⟨e,f,g,h,e2,he,hf,hg,hh,v2⟩:=four_ds m3 m4;have ht:tagN b=[hexD a,hexD b',hexD c,hexD d,hexD e,hexD f,hexD g,hexD h]:=by
  show fourN (onN (0,1,()) b).1++fourN (onN (0,1,()) b).2.1=_;rw[e1,e2];rfl
 rw[ht];refine⟨?_,fun x hx=> ?_⟩
 ·unfold gRead rdZ;rw[decide_eq_true (show [hexD a,hexD b',hexD c,hexD d,hexD e,hexD f,hexD g,hexD h].length=8 from rfl),xT,rdF_8 ha hb hc hd he hf hg hh,v1,v2];show((match(bif decide ((onN (0,1,()) b).1<65521)&&decide ((onN (0,1,()) b).2.1<65521) then some ((onN (0,1,()) b).1,(onN (0,1,()) b).2.1) else none) with
   |some z=>((FloatKind.f64.nearest z.1,FloatKind.f64.nearest z.2),true)
   |none=>((0,0),false)):(Nat×Nat)×Bool).2=true
  rw[decide_eq_true m2,decide_eq_true m4];rfl
 ·simp only[List.mem_cons,List.not_mem_nil,or_false] at hx;rcases hx with rfl|rfl|rfl|rfl|rfl|rfl|rfl|rfl
  ·exact(hexD_n ha.1 ha.2).2.2
  ·exact(hexD_n hb.1 hb.2).2.2
  ·exact(hexD_n hc.1 hc.2).2.2
  ·exact(hexD_n hd.1 hd.2).2.2
  ·exact(hexD_n he.1 he.2).2.2
  ·exact(hexD_n hf.1 hf.2).2.2
  ·exact(hexD_n hg.1 hg.2).2.2
  ·exact(hexD_n hh.1 hh.2).2.2
end Nice
