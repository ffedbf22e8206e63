/-
  Part of the proof. No condition.
-/
import Derived.Test.YtldllfocpadkeaaGreatDoorBegD
noncomputable section
namespace Nice
open Go Go.Eng
theorem xT {α:Type} (a b:α):(bif true then a else b)=a:=Eq.trans (cond_true a b) rfl
theorem xF {α:Type} (a b:α):(bif false then a else b)=b:=Eq.trans (cond_false a b) rfl
theorem xG {α:Type} (r:Option α):gd [] r=r:=Eq.trans gd_nil rfl
theorem byte_rt (c:UInt8):UInt8.ofNat ((c.toNat:Int)).toNat=c:=by rw[Int.toNat_natCast];exact UInt8.ofNat_toNat
abbrev BO:=Option (DenL [.bool])
def bO (b:Bool):Option (DenL [.bool]):=some (b,())
open Go Go.Eng
def bY:Option (DenL [.bool]):=some (true,())
def bN:Option (DenL [.bool]):=some (false,())
def rng (c:UInt8) (a b:Int) (o:Option (DenL [.bool])):Option (DenL [.bool]):=bif decide ((c.toNat:Int)>=a) then bif decide ((c.toNat:Int)<=b) then bY else o else o
def tk3 (c:UInt8):Option (DenL [.bool]):=bif (c.toNat:Int)==(45:Int) then bY else bN
theorem rng_eq (c:UInt8) (a b:Int) (o:Bool):rng c a b (some (o,()))=some (decide (a<=(c.toNat:Int)/\(c.toNat:Int)<=b)||o,()):=by
 unfold rng bY;by_cases h1:(c.toNat:Int)>=a
 ·by_cases h2:(c.toNat:Int)<=b
  ·rw[cdT h1,cdT h2,decide_eq_true (⟨h1,h2⟩:a<=(c.toNat:Int)/\(c.toNat:Int)<=b)];rfl
  ·rw[cdT h1,cdF h2,decide_eq_false (λh:a<=(c.toNat:Int)/\(c.toNat:Int)<=b=>h2 h.2)];rfl
 ·rw[cdF h1,decide_eq_false (λh:a<=(c.toNat:Int)/\(c.toNat:Int)<=b=>h1 h.1)];rfl
theorem tk3_eq (c:UInt8):tk3 c=some (decide (c.toNat=45),()):=by
 unfold tk3 bY bN;by_cases h:c.toNat=45
 ·rw[show((c.toNat:Int)==45)=true from beq_iff_eq.2 (by omega),decide_eq_true h];rfl
 ·rw[show((c.toNat:Int)==45)=false from beq_eq_false_iff_ne.2 (by omega),decide_eq_false h];rfl
end Nice
namespace Go.Proofs.YtldllfocpadkeaaGreatDoor
open Go Go.Eng Nice Go.RowKit
set_option maxRecDepth 1000000
def otokW (x:DenL [.byte]):Option (DenL [.bool]):=fO Tryz.prog (envS []) (shOf []) Tryz.f113 [.byte] [.bool] x
theorem etok (c:UInt8):otokW (c,())=rng c 65 90 (rng c 97 122 (rng c 48 57 (tk3 c))):=by kernel_rfl
theorem tok_cW:PC 113 tokBS:=(pureO (envS_ok (l:=[]) trivial) gl_ne Tryz.func113 (by kernel_rfl) (by decide)).nice λ⟨c,()⟩ _=>by
 show otokW _=some (tokB c,());rw[etok,tk3_eq,rng_eq,rng_eq,rng_eq];unfold tokB;congr 2;rw[Bool.eq_iff_iff];simp only[Bool.or_eq_true,decide_eq_true_iff];omega
def oprn (x:DenL [.byte]):Option (DenL [.bool]):=fO Tryz.prog (envS []) (shOf []) Tryz.f115 [.byte] [.bool] x
theorem eprn (c:UInt8):oprn (c,())=rng c 32 126 bN:=by kernel_rfl
theorem prn_c:PC 115 prBS:=(pureO (envS_ok (l:=[]) trivial) gl_ne Tryz.func115 (by kernel_rfl) (by decide)).nice λ⟨c,()⟩ _=>by
 show oprn _=some (prB c,());rw[eprn];unfold bN;rw[rng_eq,Bool.or_false];unfold prB;congr 2;rw[decide_eq_decide];omega
def odgt (x:DenL [.byte]):Option (DenL [.bool]):=fO Tryz.prog (envS []) (shOf []) Tryz.f341 [.byte] [.bool] x
theorem edgt (c:UInt8):odgt (c,())=rng c 48 57 bN:=by kernel_rfl
def digBS:PSpec:=⟨[.byte],[.bool],λ_=>true,λx=>(isDig x.1,())⟩
theorem dgt_c:PC 341 digBS:=(pureO (envS_ok (l:=[]) trivial) gl_ne Tryz.func341 (by kernel_rfl) (by decide)).nice λ⟨c,()⟩ _=>by
 show odgt _=some (isDig c,());rw[edgt];unfold bN;rw[rng_eq,Bool.or_false];congr 2;rw[Bool.eq_iff_iff,isDig_iff,decide_eq_true_iff];omega
abbrev shrun:List (Nat×List (Nat×Sh)):=[(2,[(0,(.one .sym)),(1,(.one .any)),(4,(.one .sym)),(7,(.one .sym)),(8,(.one .sym))])]
def hrun (k:Nat) (S:PSpec) (n:Nat) (s:L8) (a b i:Int):Option (DenL [.int .i64]):=rH Tryz.prog (envS [(k,S)]) (shOf shrun) Tryz.f112 [.int .i64] n 0 [(0,sy (.string (bs s))),(1,Value.func (Fn.func k) #[] #[]),(4,sy (.int .i64 a)),(7,sy (.int .i64 b)),(8,sy (.int .i64 i))] []
def orun (k:Nat) (S:PSpec) (x:DenL [.str,.fn k]):Option (DenL [.int .i64]):=fO Tryz.prog (envS [(k,S)]) (shOf shrun) Tryz.f112 [.str,.fn k] [.int .i64] x
def nrun (k:Nat) (S:PSpec) (N:Nat) (x:DenL [.str,.fn k]):Option (DenL [.int .i64]):=fON Tryz.prog (envS [(k,S)]) (shOf shrun) Tryz.f112 [.str,.fn k] [.int .i64] N x
def stepR (p:UInt8->Bool) (s:L8) (b i:Int) (next:Option (DenL [.int .i64])):Option (DenL [.int .i64]):=
 bif decide (i<b) then(bif p (UInt8.ofNat ((s.getD i.toNat 0).toNat:Int).toNat) then gd [decide (inK .i64 (i+1)),decide (inK .u8 ((s.getD i.toNat 0).toNat:Int)),decide (0<=i),decide (i<(s.length:Int))] next
  else gd [decide (inK .u8 ((s.getD i.toNat 0).toNat:Int)),decide (0<=i),decide (i<(s.length:Int))] (some (i,()))) else some ((s.length:Int),())
theorem run_gen {k:Nat} {S:PSpec} {p:UInt8->Bool} (e1:∀(n:Nat) (s:L8) (a b i:Int),hrun k S (n+1) s a b i=stepR p s b i (hrun k S n s a b (i+1))) (s:L8) (hs:s.length<=140737488355328):
  ∀(r i n:Nat),s.length=i+r->r<n->hrun k S n s 0 (s.length:Int) (i:Int)=some ((i:Int)+((s.drop i).takeWhile p).length,()):=by
 intro r
 induction r with
 |zero=>
  intro i n hi hn;obtain⟨n,rfl⟩:∃k,n=k+1:=⟨n-1,by omega⟩
  rw[e1];unfold stepR;rw[cdF (by omega),List.drop_eq_nil_of_le (by omega)];show some ((s.length:Int),())=some ((i:Int)+((0:Nat):Int),());rw[hi];simp
 |succ r ih=>
  intro i n hi hn;obtain⟨n,rfl⟩:∃k,n=k+1:=⟨n-1,by omega⟩
  have hl:i<s.length:=by omega
  have hb:(s.getD i 0).toNat<256:=(s.getD i 0).toNat_lt;have hd:s.drop i=s.getD i 0::s.drop (i+1):=by
   rw[List.drop_eq_getElem_cons hl,List.getD_eq_getElem?_getD,List.getElem?_eq_getElem hl];rfl
  rw[e1];unfold stepR;rw[cdT (by omega),show(i:Int).toNat=i from rfl,byte_rt,hd];have g8:inK .u8 ((s.getD i 0).toNat:Int):=inK_u8.2 ⟨by omega,by omega⟩;cases hp:p (s.getD i 0)
  ·rw[xF,gdT g8,gdT (by omega),gdT (by omega),xG,List.takeWhile_cons,hp];simp
  ·have:=ih (i+1) n (by omega) (by omega);simp only[Int.natCast_add,Int.natCast_one] at this;rw[xT,gdT (inK_i64.2 ⟨by omega,by omega⟩),gdT g8,gdT (by omega),gdT (by omega),xG,this,List.takeWhile_cons,hp];simp only[if_true,List.length_cons,Int.natCast_add,Int.natCast_one];congr 2;omega
theorem erun_64 (n:Nat) (s:L8) (a b i:Int):hrun 113 tokBS (n+1) s a b i=stepR tokB s b i (hrun 113 tokBS n s a b (i+1)):=by kernel_rfl
theorem erun_66 (n:Nat) (s:L8) (a b i:Int):hrun 115 prBS (n+1) s a b i=stepR prB s b i (hrun 115 prBS n s a b (i+1)):=by kernel_rfl
theorem erun_137 (n:Nat) (s:L8) (a b i:Int):hrun 341 digBS (n+1) s a b i=stepR isDig s b i (hrun 341 digBS n s a b (i+1)):=by kernel_rfl
theorem nrun_64 (N:Nat) (s:L8):nrun 113 tokBS N (s,(),())=hrun 113 tokBS N s 0 (s.length:Int) 0:=by kernel_rfl
theorem nrun_66 (N:Nat) (s:L8):nrun 115 prBS N (s,(),())=hrun 115 prBS N s 0 (s.length:Int) 0:=by kernel_rfl
theorem nrun_137 (N:Nat) (s:L8):nrun 341 digBS N (s,(),())=hrun 341 digBS N s 0 (s.length:Int) 0:=by kernel_rfl
def runK (k:Nat):PSpec:=⟨[.str,.fn k],[.int .i64],λx=>bndS x.1,λx=>(runLN k x.1,())⟩
theorem orun_of {k:Nat} {S:PSpec} {p:UInt8->Bool} (e1:∀(n:Nat) (s:L8) (a b i:Int),hrun k S (n+1) s a b i=stepR p s b i (hrun k S n s a b (i+1))) (e0:∀(N:Nat) (s:L8),nrun k S N (s,(),())=hrun k S N s 0 (s.length:Int) 0)
  (hk:kindB k=p) {s:L8} (h:bndS s=true):orun k S (s,(),())=some (runLN k s,()):=by
 have hs:s.length<=140737488355328:=of_decide_eq_true h;have e:orun k S (s,(),())=nrun k S heads0 (s,(),()):=rfl;have:=run_gen e1 s hs s.length 0 heads0 (by omega) (by unfold heads0;omega);rw[e,e0];unfold runLN;rw[hk];refine Eq.trans this ?_;rw[List.drop_zero];simp
theorem run64_c:PC 112 (runK 113):=(pureO (sh:=shOf shrun) (envS_ok (l:=[(113,tokBS)]) ⟨tok_cW,trivial⟩) gl_ne Tryz.func112 (by kernel_rfl) (by decide)).nice λ⟨s,(),()⟩ h=>orun_of erun_64 nrun_64 (by funext c;rfl) h
theorem run66_c:PC 112 (runK 115):=(pureO (sh:=shOf shrun) (envS_ok (l:=[(115,prBS)]) ⟨prn_c,trivial⟩) gl_ne Tryz.func112 (by kernel_rfl) (by decide)).nice λ⟨s,(),()⟩ h=>orun_of erun_66 nrun_66 (by funext c;rfl) h
theorem run137_c:PC 112 (runK 341):=(pureO (sh:=shOf shrun) (envS_ok (l:=[(341,digBS)]) ⟨dgt_c,trivial⟩) gl_ne Tryz.func112 (by kernel_rfl) (by decide)).nice λ⟨s,(),()⟩ h=>orun_of erun_137 nrun_137 (by funext c;rfl) h
theorem run_c:PC 112 runS:=by
 intro fz w args x hfz hgl hr hp;obtain⟨s,k,⟨⟩⟩:=x;have hp:(bndS s&&kindP k)=true:=hp;rw[Bool.and_eq_true] at hp;have hk:k=113\/k=115\/k=341:=by
  have:=hp.2;unfold kindP at this;rw[Bool.or_eq_true,Bool.or_eq_true] at this;rcases this with h|h|h
  ·exact .inl (Nat.eq_of_beq_eq_true h)
  ·exact .inr (.inl (Nat.eq_of_beq_eq_true h))
  ·exact .inr (.inr (Nat.eq_of_beq_eq_true h))
 have hr':RdAll fz [.str,.fn k] (s,(),()) args.toList:=hr;rcases hk with rfl|rfl|rfl
 ·exact run64_c fz w args (s,(),()) hfz hgl hr' hp.1
 ·exact run66_c fz w args (s,(),()) hfz hgl hr' hp.1
 ·exact run137_c fz w args (s,(),()) hfz hgl hr' hp.1
end Go.Proofs.YtldllfocpadkeaaGreatDoor
namespace Nice
open Go Go.Eng
theorem low_eq:∀s:L8,Lib.toLowerA s=lower s:=by
 have h:∀b:UInt8,Lib.lowerB b=lo b:=by
  intro b;have:(List.range 256).all (λn=>Lib.lowerB (UInt8.ofNat n)==lo (UInt8.ofNat n))=true:=by kernel_rfl
  have:=List.all_eq_true.1 this b.toNat (List.mem_range.2 b.toNat_lt);rw[UInt8.ofNat_toNat] at this;exact beq_iff_eq.1 this
 intro s;unfold Lib.toLowerA lower;exact List.map_congr_left λb _=>h b
theorem ascP_iff {s:L8}:ascP s=true↔(∀c,c∈s->c.toNat<128)/\s.length<=140737488355328:=by
 unfold ascP bndS;rw[Bool.and_eq_true,List.all_eq_true,decide_eq_true_eq];simp only[decide_eq_true_eq]
def lenC:L8:=[67,111,110,116,101,110,116,45,76,101,110,103,116,104]
def wRes (s:L8):Option (DenL [.bool]):=bif lowN s==lowN lenC then gd [ascP lenC,ascP s] (bO true) else gd [ascP lenC,ascP s] (bO false)
def wV (v:L8):Option (DenL [.bool]):=
 bif decide ((v.length:Int)<=100) then(bif runLN 115 v==(v.length:Int) then(bif trim1 v==v then gd [bndS v&&[32]==[32],bndS v&&kindP 115] (bO true) else gd [bndS v&&[32]==[32],bndS v&&kindP 115] (bO false)) else gd [bndS v&&kindP 115] (bO false)) else bO false
def wH (n v:L8):Option (DenL [.bool]):=
 bif decide ((n.length:Int)>=1) then(bif decide ((n.length:Int)<=30) then(bif runLN 113 n==(n.length:Int) then(bif resN n then gd [ascP n,bndS n&&kindP 113] (bO false) else gd [ascP n,bndS n&&kindP 113] (wV v)) else gd [bndS n&&kindP 113] (bO false)) else bO false) else bO false
theorem takeW_all {p:UInt8->Bool}:∀{s:L8},((s.takeWhile p).length=s.length)↔s.all p=true
 |[]=>by simp
 |c::r=>by
  rw[List.takeWhile_cons,List.all_cons];cases hp:p c
  ·simp
  ·simp only[if_true,List.length_cons,Bool.true_and];rw[<-takeW_all (s:=r)];omega
theorem run_all (k:Nat) (s:L8):(runLN k s==(s.length:Int))=s.all (kindB k):=by
 unfold runLN;rw[Bool.eq_iff_iff,beq_iff_eq,<-takeW_all];omega
theorem kind64:kindB 113=tokB:=by funext c;rfl
theorem kind66:kindB 115=prB:=by funext c;rfl
theorem tok_asc {s:L8} (h:s.all tokB=true):∀c,c∈s->c.toNat<128:=λc hc=>by
 have:=List.all_eq_true.1 h c hc;unfold tokB at this;have:=of_decide_eq_true this;omega
theorem wH_n {n v:L8} (h:headPW (n,v,())=true):wH n v=some (headB (n,v,()),()):=by
 unfold headPW at h;rw[Bool.and_eq_true] at h;obtain⟨h1,h2⟩:=h;have h1:bndS n=true:=h1;have h2:bndS v=true:=h2;have k64:(bndS n&&kindP 113)=true:=by rw[h1];rfl
 have k66:(bndS v&&kindP 115)=true:=by rw[h2];rfl
 have k32:(bndS v&&[32]==[32])=true:=by rw[h2];rfl
 unfold wH headB resN;dsimp only;by_cases a1:1<=n.length
 ·by_cases a2:n.length<=30
  ·rw[cdT (show(n.length:Int)>=1 by omega),cdT (show(n.length:Int)<=30 by omega),decide_eq_true (⟨a1,a2⟩:1<=n.length/\n.length<=30),run_all,kind64];cases ht:n.all tokB
   ·rw[xF,gdB k64,xG];rfl
   ·have ha:ascP n=true:=ascP_iff.2 ⟨tok_asc ht,by omega⟩;rw[xT];cases lower n==clen
    ·rw[xF,gdB ha,gdB k64,xG];unfold wV;by_cases b1:v.length<=100
     ·rw[cdT (show(v.length:Int)<=100 by omega),decide_eq_true b1,run_all,kind66];cases v.all prB
      ·rw[xF,gdB k66,xG];rfl
      ·rw[xT];cases trim1 v==v
       ·rw[xF,gdB k32,gdB k66,xG];rfl
       ·rw[xT,gdB k32,gdB k66,xG];rfl
     ·rw[cdF (show ¬(v.length:Int)<=100 by omega),decide_eq_false b1];rfl
    ·rw[xT,gdB ha,gdB k64,xG];rfl
  ·rw[cdT (show(n.length:Int)>=1 by omega),cdF (show ¬(n.length:Int)<=30 by omega),decide_eq_false (λh:1<=n.length/\n.length<=30=>a2 h.2)];rfl
 ·rw[cdF (show ¬(n.length:Int)>=1 by omega),decide_eq_false (λh:1<=n.length/\n.length<=30=>a1 h.1)];rfl
def stepI (l:List HeadDW) (b i:Int) (next:Option (DenL [.int .i64])):Option (DenL [.int .i64]):=
 bif decide (i<b) then(bif !headB (l.getD i.toNat (HeadT).dflt) then gd [headPW (l.getD i.toNat (HeadT).dflt),decide (i.toNat<l.length),decide (0<=i),decide (i<(l.length:Int))] (some (i,()))
  else gd [decide (inK .i64 (i+1)),headPW (l.getD i.toNat (HeadT).dflt),decide (i.toNat<l.length),decide (0<=i),decide (i<(l.length:Int))] next) else some ((-1:Int),())
def wAny (l:List HeadDW):Option (DenL [.bool]):=bif decide (idxHN l>=0) then gd [headsPW l] (bO true) else gd [headsPW l] (bO false)
def wMay (n:Int) (hs:List HeadDW) (b:L8):Option (DenL [.bool]):=
 bif anyN hs then gd [headsPW hs] (bif !wordsN n==[] then(bif decide ((hs.length:Int)<=10) then bO false else bO false) else bO false)
 else gd [headsPW hs] (bif !wordsN n==[] then(bif decide ((hs.length:Int)<=10) then(bif decide ((b.length:Int)<=20000) then(bif n !=204 then bO true else bif b==[] then bO true else bO false) else bO false) else bO false) else bO false)
theorem anyN_eq (l:List HeadDW):decide (idxHN l>=0)=anyN l:=by
 unfold idxHN anyN;cases l.any λh=> !headB h
 ·rfl
 ·exact decide_eq_true (by rw[xT];omega)
theorem wMay_n {n:Int} {hs:List HeadDW} {b:L8} (h:headsPW hs=true):wMay n hs b=some (amayB (n,hs,b,()),()):=by
 unfold wMay amayB;dsimp only;cases anyN hs
 ·rw[xF,gdB h,xG];cases wordsN n==[]
  ·rw[Bool.not_false,xT,Bool.true_and];by_cases a1:hs.length<=10
   ·rw[cdT (show(hs.length:Int)<=10 by omega),decide_eq_true a1,Bool.true_and,Bool.true_and];by_cases a2:b.length<=20000
    ·rw[cdT (show(b.length:Int)<=20000 by omega),decide_eq_true a2,Bool.true_and];unfold bne;cases n==204
     ·rfl
     ·cases b==[]<;>rfl
    ·rw[cdF (show ¬(b.length:Int)<=20000 by omega),decide_eq_false a2];rfl
   ·rw[cdF (show ¬(hs.length:Int)<=10 by omega),decide_eq_false a1];rfl
  ·rfl
 ·rw[xT,gdB h,xG];cases wordsN n==[]
  ·cases decide ((hs.length:Int)<=10)<;>cases decide (hs.length<=10)<;>rfl
  ·rfl
end Nice
namespace Go.Proofs.YtldllfocpadkeaaGreatDoor
open Go Go.Eng Nice Go.RowKit
set_option maxRecDepth 1000000
theorem low_c:PC 152 lowAS:=pc_mk λfz w args x hgl hr hp=>by
 obtain⟨s,⟨⟩⟩:=x;obtain⟨h1,h2⟩:=ascP_iff.1 hp;obtain⟨_,r3,e1,g1,hr1⟩:=rd_cons' rfl hr;obtain rfl:r3=[]:=hr1;cases g1;have ha:args=#[.string (bs s)]:=Array.toList_inj.1 e1;subst ha;refine(Tryz.strings_ToLower_ascii (bs s) w (by show s.length<=_;exact h2) (λj b hb=>h1 b (List.mem_of_getElem? hb))).mono ?_
 rintro e w' ⟨rfl,hbl⟩;exact⟨[.string (bs (lower s))],by rw[<-low_eq];rfl,⟨_,_,rfl,.inr ⟨rfl,rfl⟩,rfl⟩,same_of hbl⟩
def ores (x:DenL [.str]):Option (DenL [.bool]):=fO Tryz.prog (envS [(152,lowAS)]) (shOf []) Tryz.f114 [.str] [.bool] x
theorem eres (s:L8):ores (s,())=wRes s:=by kernel_rfl
theorem res_c:PC 114 resS:=(pureO (envS_ok (l:=[(152,lowAS)]) ⟨low_c,trivial⟩) gl_ne Tryz.func114 (by kernel_rfl) (by decide)).nice λ⟨s,()⟩ h=>by
 have h:ascP s=true:=h;have hl:ascP lenC=true:=by kernel_rfl
 have e:lowN lenC=clen:=by kernel_rfl
 show ores _=some (resN s,());rw[eres];unfold wRes resN;rw[e,gdB hl,gdB h,xG,gdB hl,gdB h,xG];show(bif lower s==clen then bO true else bO false)=_;cases lower s==clen<;>rfl
theorem trim_cW:PC 116 trim1S:=pc_mk λfz w args x hgl hr hp=>by
 obtain⟨s,p,⟨⟩⟩:=x;have hp':(bndS s&&p==[32])=true:=hp;clear hp;rw[Bool.and_eq_true,beq_iff_eq] at hp';obtain⟨hl,rfl⟩:=hp';have hl:s.length<=140737488355328:=of_decide_eq_true hl;obtain⟨_,_,e1,g1,hr1⟩:=rd_cons' rfl hr;obtain⟨_,r3,rfl,g2,hr2⟩:=rd_cons' rfl hr1;obtain rfl:r3=[]:=hr2;cases g1;cases g2;have ha:args=#[.string (bs s),.string (bs [32])]:=Array.toList_inj.1 e1
 subst ha;refine(Tryz.strings_Trim_one (bs s) 32 (by decide) w (by show s.length<=_;omega)).mono ?_;rintro e w' ⟨rfl,hw⟩;refine⟨[.string (bs (trim1 s))],rfl,⟨_,_,rfl,.inr ⟨rfl,rfl⟩,rfl⟩,?_⟩;rcases hw with rfl|rfl
 ·exact⟨Nat.le_refl _,rfl,rfl,λ_ _=>rfl⟩
 ·exact⟨Nat.le_refl _,rfl,rfl,λ_ _=>rfl⟩
def omayH (x:DenL [HeadT]):Option (DenL [.bool]):=fO Tryz.prog (envS [(112,runS),(114,resS),(116,trim1S)]) (shOf []) Tryz.f67 [HeadT] [.bool] x
theorem emayH (n v:L8):omayH ((n,v,()),())=wH n v:=by kernel_rfl
theorem mayH_c:PC 67 mayHS:=(pureO (envS_ok (l:=[(112,runS),(114,resS),(116,trim1S)]) ⟨run_c,res_c,trim_cW,trivial⟩) gl_ne Tryz.func67 (by kernel_rfl) (by decide)).nice λ⟨⟨n,v,()⟩,()⟩ h=>by
 show omayH _=_;rw[emayH];exact wH_n h
def onotH (x:DenL [HeadT]):Option (DenL [.bool]):=fO Tryz.prog (envS [(67,mayHS)]) (shOf []) Tryz.f66 [HeadT] [.bool] x
theorem enotH (h:HeadDW):onotH (h,())=(bif headB h then gd [headPW h] (bO false) else gd [headPW h] (bO true)):=by kernel_rfl
theorem notH_c:PC 66 notHS:=(pureO (envS_ok (l:=[(67,mayHS)]) ⟨mayH_c,trivial⟩) gl_ne Tryz.func66 (by kernel_rfl) (by decide)).nice λ⟨x,()⟩ h=>by
 have h:headPW x=true:=h;show onotH _=some (!headB x,());rw[enotH,gdB h,gdB h,xG,xG];cases headB x<;>rfl
abbrev shidxH:List (Nat×List (Nat×Sh)):=[(2,[(0,(.one (.dat (.pair .str (.pair .str .unit))))),(1,(.one .any)),(4,(.one .sym)),(7,(.one .sym)),(8,(.one .sym))])]
def hidxH (n:Nat) (l:List HeadDW) (a b i:Int):Option (DenL [.int .i64]):=rH Tryz.prog (envS [(66,notHS)]) (shOf shidxH) Tryz.f111 [.int .i64] n 0 [(0,dt 10),(1,Value.func (Fn.func 66) #[] #[]),(4,sy (.int .i64 a)),(7,sy (.int .i64 b)),(8,sy (.int .i64 i))] [.dat (.pair .str (.pair .str .unit)) l]
def oidxH (x:DenL [.slice HeadT,.fn 66]):Option (DenL [.int .i64]):=fO Tryz.prog (envS [(66,notHS)]) (shOf shidxH) Tryz.f111 [.slice HeadT,.fn 66] [.int .i64] x
theorem oidxH_g (x:DenL [.slice HeadT,.fn 66]):oidxH x=fON Tryz.prog (envS [(66,notHS)]) (shOf shidxH) Tryz.f111 [.slice HeadT,.fn 66] [.int .i64] heads0 x:=rfl
theorem eidxH_g (N:Nat) (l:List HeadDW):fON Tryz.prog (envS [(66,notHS)]) (shOf shidxH) Tryz.f111 [.slice HeadT,.fn 66] [.int .i64] N (l,(),())=hidxH N l 0 (l.length:Int) 0:=by kernel_rfl
theorem eidxH_0 (n:Nat) (l:List HeadDW) (a b i:Int):hidxH (n+1) l a b i=stepI l b i (hidxH n l a b (i+1)):=by kernel_rfl
open Go Go.Eng Nice Go.RowKit
set_option maxRecDepth 1000000
theorem idx_lW (l:List HeadDW) (hl:l.length<=140737488355328) (hp:∀h,h∈l->headPW h=true):∀(r i n:Nat),l.length=i+r->r<n->hidxH n l 0 (l.length:Int) (i:Int)=some ((bif (l.drop i).any (λh=> !headB h) then(i:Int)+((l.drop i).takeWhile headB).length else -1),()):=by
 intro r
 induction r with
 |zero=>
  intro i n hi hn;obtain⟨n,rfl⟩:∃k,n=k+1:=⟨n-1,by omega⟩
  rw[eidxH_0];unfold stepI;rw[cdF (by omega),List.drop_eq_nil_of_le (by omega)];rfl
 |succ r ih=>
  intro i n hi hn;obtain⟨n,rfl⟩:∃k,n=k+1:=⟨n-1,by omega⟩
  have hlt:i<l.length:=by omega
  have hd:l.drop i=l.getD i (HeadT).dflt::l.drop (i+1):=by
   rw[List.drop_eq_getElem_cons hlt,List.getD_eq_getElem?_getD,List.getElem?_eq_getElem hlt];rfl
  have hh:headPW (l.getD i (HeadT).dflt)=true:=hp _ (by
   rw[List.getD_eq_getElem?_getD,List.getElem?_eq_getElem hlt];exact List.getElem_mem hlt)
  rw[eidxH_0];unfold stepI;rw[cdT (by omega),show(i:Int).toNat=i from rfl,hd,List.any_cons,List.takeWhile_cons];cases hb:headB (l.getD i (HeadT).dflt)
  ·rw[Bool.not_false,xT,gdB hh,gdT (by omega),gdT (by omega),gdT (by omega),xG,Bool.true_or,xT];simp
  ·have:=ih (i+1) n (by omega) (by omega);simp only[Int.natCast_add,Int.natCast_one] at this;rw[Bool.not_true,xF,gdT (inK_i64.2 ⟨by omega,by omega⟩),gdB hh,gdT (by omega),gdT (by omega),gdT (by omega),xG,this,Bool.false_or];cases(l.drop (i+1)).any λh=> !headB h
   ·rfl
   ·simp only[xT,if_true,List.length_cons,Int.natCast_add,Int.natCast_one];congr 2;omega
theorem headsP_iff {l:List HeadDW}:headsPW l=true↔l.length<=140737488355328/\∀h,h∈l->headPW h=true:=by
 unfold headsPW;rw[Bool.and_eq_true,decide_eq_true_eq,List.all_eq_true]
theorem idxH_c:PC 111 (idxHS 66):=(pureO (sh:=shOf shidxH) (envS_ok (l:=[(66,notHS)]) ⟨notH_c,trivial⟩) gl_ne Tryz.func111 (by kernel_rfl) (by decide)).nice λ⟨l,(),()⟩ h=>by
 obtain⟨h1,h2⟩:=headsP_iff.1 h;have h1:l.length<=140737488355328:=h1;show oidxH _=some (idxHN l,());rw[oidxH_g,eidxH_g];refine Eq.trans (idx_lW l h1 h2 l.length 0 heads0 (by omega) (by unfold heads0;omega)) ?_;unfold idxHN;rw[List.drop_zero];cases l.any λh=> !headB h
 ·rfl
 ·simp
def oanyH (x:DenL [.slice HeadT,.fn 66]):Option (DenL [.bool]):=fO Tryz.prog (envS [(111,idxHS 66)]) (shOf []) Tryz.f65 [.slice HeadT,.fn 66] [.bool] x
theorem eanyH (l:List HeadDW):oanyH (l,(),())=wAny l:=by kernel_rfl
theorem anyH_c:PC 65 (anyS 66):=(pureO (envS_ok (l:=[(111,idxHS 66)]) ⟨idxH_c,trivial⟩) gl_ne Tryz.func65 (by kernel_rfl) (by decide)).nice λ⟨l,(),()⟩ h=>by
 have h:headsPW l=true:=h;show oanyH _=some (anyN l,());rw[eanyH];unfold wAny;rw[anyN_eq,gdB h,gdB h,xG,xG];cases anyN l<;>rfl
def oamayW (x:DenL [AnsT]):Option (DenL [.bool]):=fO Tryz.prog (envS [(68,wordsS),(65,anyS 66)]) (shOf []) Tryz.f26 [AnsT] [.bool] x
theorem eamayW (n:Int) (hs:List HeadDW) (b:L8):oamayW ((n,hs,b,()),())=wMay n hs b:=by kernel_rfl
theorem amay_cW:PC 26 amayAS:=(pureO (envS_ok (l:=[(68,wordsS),(65,anyS 66)]) ⟨words_c,anyH_c,trivial⟩) gl_ne Tryz.func26 (by kernel_rfl) (by decide)).nice λ⟨⟨n,hs,b,()⟩,()⟩ h=>by
 show oamayW _=_;rw[eamayW];exact wMay_n h
end Go.Proofs.YtldllfocpadkeaaGreatDoor
namespace Nice
open Go Go.Eng
def lineB:L8:=[72,84,84,80,47,49,46,49,32]
def hdT (h:HeadDW):L8:=h.1++[58,32]++h.2.1++[13,10]
def hdsT:List HeadDW->L8
 |[]=>[]
 |h::r=>hdT h++hdsT r
def lenW0:L8:=[67,111,110,116,101,110,116,45,76,101,110,103,116,104,58,32]
def lenT (k:Int):L8:=lenW0++fmtN k++[13,10]
def statT (n:Int):L8:=lineB++fmtN n++[32]++wordsN n++[13,10]
def endT (n:Int) (b:L8) (c:Bool):L8:=(bif n !=204 then lenT (b.length:Int)++[13,10] else [13,10])++(bif c then [] else b)
def aputN (a:AnsD) (c:Bool):L8:=bif amayB a then statT a.1++hdsT a.2.1++endT a.1 a.2.2.1 c else []
def aputS:PSpec:=⟨[AnsT,.bool],[.str],λx=>aputP x.1,λx=>(aputN x.1 x.2.1,())⟩
def finP (c:Bool) (n:Int) (b t:L8):Option (DenL [.str]):=
 bif n !=204 then gd [decide ((t++lenT (b.length:Int)).length+2<=1099511627776),decide (t.length+(lenT (b.length:Int)).length<=1099511627776),decide ((lenW0++fmtN (b.length:Int)).length+2<=1099511627776),decide (16+(fmtN (b.length:Int)).length<=1099511627776),i64P (b.length:Int)]
  (bif !c then gd [decide ((t++lenT (b.length:Int)++[13,10]).length+b.length<=1099511627776)] (some (t++lenT (b.length:Int)++[13,10]++b,())) else some (t++lenT (b.length:Int)++[13,10],()))
 else gd [decide (t.length+2<=1099511627776)] (bif !c then gd [decide ((t++[13,10]).length+b.length<=1099511627776)] (some (t++[13,10]++b,())) else some (t++[13,10],()))
def stepPW (c:Bool) (n:Int) (b t:L8) (l:List HeadDW) (k i:Int) (next:Option (DenL [.str])):Option (DenL [.str]):=
 bif decide (i<k) then gd [decide (inK .i64 (i+1)),decide (t.length+(hdT (l.getD i.toNat (HeadT).dflt)).length<=1099511627776),decide (((l.getD i.toNat (HeadT).dflt).1++[58,32]++(l.getD i.toNat (HeadT).dflt).2.1).length+2<=1099511627776),decide (((l.getD i.toNat (HeadT).dflt).1++[58,32]).length+(l.getD i.toNat (HeadT).dflt).2.1.length<=1099511627776),decide ((l.getD i.toNat (HeadT).dflt).1.length+2<=1099511627776),decide (i.toNat<l.length),decide (0<=i),decide (i<(l.length:Int))] next
 else finP c n b t
theorem st_ok:([200,204,400,404,405,412,413,414,431,503,507]:List Int).all (λn=>decide ((fmtN n).length<=20)&&(decide ((wordsN n).length<=40)&&i64P n))=true:=by kernel_rfl
theorem st_mem {n:Int} (h:(!(wordsN n==[]))=true):n∈([200,204,400,404,405,412,413,414,431,503,507]:List Int):=by
 apply Classical.byContradiction;intro hn;have hne:∀k:Int,k∈([200,204,400,404,405,412,413,414,431,503,507]:List Int)->(n==k)=false:=λk hk=>beq_eq_false_iff_ne.2 λe=>hn (e▸hk)
 have e:wordsN n=[]:=by
  unfold wordsN;rw[hne 200 (by decide),hne 204 (by decide),hne 400 (by decide),hne 404 (by decide),hne 405 (by decide),hne 412 (by decide),hne 413 (by decide),hne 414 (by decide),hne 431 (by decide),hne 503 (by decide),hne 507 (by decide)];rfl
 rw[e] at h;cases h
theorem st_len {n:Int} (h:(!(wordsN n==[]))=true):(fmtN n).length<=20/\(wordsN n).length<=40/\i64P n=true:=by
 have:=List.all_eq_true.1 st_ok n (st_mem h);simp only[Bool.and_eq_true,decide_eq_true_eq] at this;exact this
theorem headB_len {h:HeadDW} (hb:headB h=true):h.1.length<=30/\h.2.1.length<=100:=by
 unfold headB at hb;simp only[Bool.and_eq_true,decide_eq_true_eq] at hb;exact⟨hb.1.1.2,hb.2.1⟩
theorem amay_len {n:Int} {hs:List HeadDW} {b:L8} (h:amayB (n,hs,b,())=true):(!(wordsN n==[]))=true/\hs.length<=10/\(∀x,x∈hs->headB x=true)/\b.length<=20000:=by
 unfold amayB at h;simp only[Bool.and_eq_true,decide_eq_true_eq] at h;refine⟨h.1,h.2.1,λx hx=> ?_,h.2.2.2.1⟩;have h3:=h.2.2.1;unfold anyN at h3;cases hb:headB x
 ·have:(hs.any λh=> !headB h)=true:=List.any_eq_true.2 ⟨x,hx,by rw[hb];rfl⟩;rw[this] at h3;cases h3
 ·rfl
theorem itoa_20 {k:Nat} (h:k<=20000):(fmtN (k:Int)).length<=20:=by
 have e:fmtN (k:Int)=Lib.decDigits k:=by
  show Lib.itoa (k:Int)=_;unfold Lib.itoa;rw[if_neg (by omega)];rfl
 rw[e,Lib.decDigits_length];have key:∀(m u:Nat),u<10^(m+1)->Lib.nDigits u<=m+1:=by
  intro m
  induction m with
  |zero=>intro u hu;rw[Lib.nDigits_small (by simpa using hu)];exact Nat.le_refl _
  |succ m ih=>
   intro u hu;by_cases h1:u<10
   ·rw[Lib.nDigits_small h1];omega
   ·rw[Lib.nDigits_big h1];have:=ih (u/10) (by rw[Nat.pow_succ] at hu;omega);omega
 have:=key 4 k (by omega);omega
theorem i64_nat {k:Nat} (h:k<=20000):i64P (k:Int)=true:=by
 unfold i64P;rw[Bool.and_eq_true,decide_eq_true_eq,decide_eq_true_eq];omega
theorem finP_n {c:Bool} {n:Int} {b t:L8} (hb:b.length<=20000) (ht:t.length<=100000):finP c n b t=some (t++endT n b c,()):=by
 have h1:=itoa_20 hb;have h2:lenW0.length=16:=rfl;have h3:(lenT (b.length:Int)).length<=40:=by
  unfold lenT;simp only[List.length_append,List.length_cons,List.length_nil];omega
 unfold finP endT;cases n !=204
 ·rw[xF,xF,gdT (by omega),xG];cases c
  ·rw[Bool.not_false,xT,xF,gdT (by simp only[List.length_append,List.length_cons,List.length_nil];omega),xG,List.append_assoc]
  ·rw[Bool.not_true,xF,xT,List.append_nil]
 ·rw[xT,xT,gdT (by rw[List.length_append];omega),gdT (by omega),gdT (by rw[List.length_append];omega),gdT (by omega),gdB (i64_nat hb),xG];cases c
  ·rw[Bool.not_false,xT,xF,gdT (by simp only[List.length_append,List.length_cons,List.length_nil];omega),xG];simp only[List.append_assoc]
  ·rw[Bool.not_true,xF,xT,List.append_nil];simp only[List.append_assoc]
end Nice
namespace Go.Proofs.YtldllfocpadkeaaGreatDoor
open Go Go.Eng Nice Go.RowKit
set_option maxRecDepth 1000000
abbrev shaput:List (Nat×List (Nat×Sh)):=[(5,[(1,(.one .sym)),(2,(.obj [.sym,(.dat (.pair .str (.pair .str .unit))),.sym])),(4,(.one .sym)),(5,(.one .sym)),(22,(.one (.dat (.pair .str (.pair .str .unit))))),(23,(.one .sym)),(24,(.one .sym))])]
def haput (k:Nat) (c:Bool) (n:Int) (hs:List HeadDW) (b t l:L8) (ls:List HeadDW) (m i:Int):Option (DenL [.str]):=rH Tryz.prog (envS [(26,amayAS),(68,wordsS),(79,itoaS)]) (shOf shaput) Tryz.f40 [.str] k 0 [(1,.bool c),(2,.pointer (some ⟨11,0,none⟩)),(4,sy (.string (bs l))),(5,sy (.string (bs t))),(22,dt 12),(23,sy (.int .i64 m)),(24,sy (.int .i64 i))] [.dat (.pair .str (.pair .str .unit)) hs,.row [sy (.int .i64 n),dt 10,sy (.string (bs b))] 51 false,.dat (.pair .str (.pair .str .unit)) ls]
def oaput (x:DenL [AnsT,.bool]):Option (DenL [.str]):=fO Tryz.prog (envS [(26,amayAS),(68,wordsS),(79,itoaS)]) (shOf shaput) Tryz.f40 [AnsT,.bool] [.str] x
theorem oaput_g (x:DenL [AnsT,.bool]):oaput x=fON Tryz.prog (envS [(26,amayAS),(68,wordsS),(79,itoaS)]) (shOf shaput) Tryz.f40 [AnsT,.bool] [.str] heads0 x:=rfl
theorem eaput_g (N:Nat) (n:Int) (hs:List HeadDW) (b:L8) (c:Bool):fON Tryz.prog (envS [(26,amayAS),(68,wordsS),(79,itoaS)]) (shOf shaput) Tryz.f40 [AnsT,.bool] [.str] N ((n,hs,b,()),c,())=
 (bif amayB (n,hs,b,()) then gd [decide ((lineB++fmtN n++[32]++wordsN n).length+2<=1099511627776),decide ((lineB++fmtN n++[32]).length+(wordsN n).length<=1099511627776),decide ((lineB++fmtN n).length+1<=1099511627776),decide (9+(fmtN n).length<=1099511627776),i64P n,aputP (n,hs,b,())] (haput N c n hs b (statT n) [] hs (hs.length:Int) 0)
  else gd [aputP (n,hs,b,())] (some ([],()))):=by kernel_rfl
theorem eaput_0 (k:Nat) (c:Bool) (n:Int) (hs:List HeadDW) (b t l:L8) (ls:List HeadDW) (m i:Int):haput (k+1) c n hs b t l ls m i=stepPW c n b t ls m i (haput k c n hs b (t++hdT (ls.getD i.toNat (HeadT).dflt)) l ls m (i+1)):=by kernel_rfl
theorem aput_l (c:Bool) (n:Int) (hs:List HeadDW) (b l:L8) (ls:List HeadDW) (hb:b.length<=20000) (hl:ls.length<=10) (hh:∀x,x∈ls->headB x=true):∀(r i k:Nat) (t:L8),ls.length=i+r->r<k->t.length<=1000+200*i->haput k c n hs b t l ls (ls.length:Int) (i:Int)=some (t++hdsT (ls.drop i)++endT n b c,()):=by
 intro r
 induction r with
 |zero=>
  intro i k t hi hk ht;obtain⟨k,rfl⟩:∃m,k=m+1:=⟨k-1,by omega⟩
  rw[eaput_0];unfold stepPW;rw[cdF (by omega),finP_n hb (by omega),List.drop_eq_nil_of_le (by omega)];show _=some (t++[]++_,());rw[List.append_nil]
 |succ r ih=>
  intro i k t hi hk ht;obtain⟨k,rfl⟩:∃m,k=m+1:=⟨k-1,by omega⟩
  have hlt:i<ls.length:=by omega
  have hd:ls.drop i=ls.getD i (HeadT).dflt::ls.drop (i+1):=by
   rw[List.drop_eq_getElem_cons hlt,List.getD_eq_getElem?_getD,List.getElem?_eq_getElem hlt];rfl
  have hx:headB (ls.getD i (HeadT).dflt)=true:=hh _ (by
   rw[List.getD_eq_getElem?_getD,List.getElem?_eq_getElem hlt];exact List.getElem_mem hlt)
  obtain⟨l1,l2⟩:=headB_len hx;have l3:(hdT (ls.getD i (HeadT).dflt)).length<=200:=by
   unfold hdT;simp only[List.length_append,List.length_cons,List.length_nil];omega
  have:=ih (i+1) k (t++hdT (ls.getD i (HeadT).dflt)) (by omega) (by omega) (by rw[List.length_append];omega);simp only[Int.natCast_add,Int.natCast_one] at this;rw[eaput_0];unfold stepPW;rw[cdT (by omega),show(i:Int).toNat=i from rfl,gdT (inK_i64.2 ⟨by omega,by omega⟩),gdT (by omega),gdT (by simp only[List.length_append,List.length_cons,List.length_nil];omega),gdT (by simp only[List.length_append,List.length_cons,List.length_nil];omega),gdT (by omega),gdT (by omega),gdT (by omega),gdT (by omega),xG,this,hd]
  show some (_++_++_,())=some (t++(hdT (ls.getD i (HeadT).dflt)++hdsT (ls.drop (i+1)))++_,());rw[List.append_assoc t]
theorem aput_c:PC 40 aputS:=(pureO (sh:=shOf shaput) (envS_ok (l:=[(26,amayAS),(68,wordsS),(79,itoaS)]) ⟨amay_cW,words_c,itoa_c,trivial⟩) gl_ne Tryz.func40 (by kernel_rfl) (by decide)).nice λ⟨⟨n,hs,b,()⟩,c,()⟩ h=>by
 have h:aputP (n,hs,b,())=true:=h;show oaput _=some (aputN (n,hs,b,()) c,());rw[oaput_g,eaput_g];unfold aputN;cases hm:amayB (n,hs,b,())
 ·rw[xF,xF,gdB h,xG]
 ·obtain⟨m1,m2,m3,m4⟩:=amay_len hm;obtain⟨a1,a2,a3⟩:=st_len m1;have ll:lineB.length=9:=rfl;have hw:(statT n).length<=80:=by
   unfold statT;simp only[List.length_append,List.length_cons,List.length_nil];omega
  rw[xT,xT,gdT (by simp only[List.length_append,List.length_cons,List.length_nil];omega),gdT (by simp only[List.length_append,List.length_cons,List.length_nil];omega),gdT (by simp only[List.length_append];omega),gdT (by omega),gdB a3,gdB h,xG];exact aput_l c n hs b [] hs m4 m2 m3 hs.length 0 heads0 _ (by omega) (by unfold heads0;omega) (by omega)
end Go.Proofs.YtldllfocpadkeaaGreatDoor
namespace Nice
open Go Go.Eng
abbrev VerT:Ty:=.pair (.int .i64) (.pair .bool (.pair .str .unit))
abbrev EntT:Ty:=.pair .str (.pair (.slice VerT) .unit)
abbrev VerD:Type:=Int×Bool×L8×Unit
abbrev EntD:Type:=L8×List VerD×Unit
def verBW (v:VerD):Bool:=decide (1<=v.1)&&(decide (v.1<=1099511627776)&&(decide (v.2.2.1.length<=300)&&(!v.2.1||v.2.2.1==[])))
def riseV:Int->List VerD->Bool
 |_,[]=>true
 |last,v::r=>verBW v&&(decide (last<v.1)&&riseV v.1 r)
def entB (e:EntD):Bool:=riseV 0 e.2.1&&(isKey e.1&&(decide (1<=e.2.1.length)&&decide (e.2.1.length<=12)))
def entP (e:EntD):Bool:=bndS e.1&&decide (e.2.1.length<=140737488355328)
def entS:PSpec:=⟨[EntT],[.bool],λx=>entP x.1,λx=>(entB x.1,())⟩
open Go Go.Eng
theorem hdT_len {h:HeadDW} (hb:headB h=true):(hdT h).length<=134:=by
 obtain⟨h1,h2⟩:=headB_len hb;unfold hdT;simp only[List.length_append,List.length_cons,List.length_nil];omega
theorem hdsT_len:∀(l:List HeadDW),(∀h,h∈l->headB h=true)->(hdsT l).length<=134*l.length
 |[],_=>Nat.le_refl _
 |h::l,hh=>by
  have h1:=hdT_len (hh h (List.mem_cons_self ..));have h2:=hdsT_len l λh hm=>hh h (List.mem_cons_of_mem _ hm)
  show(hdT h++hdsT l).length<=_;rw[List.length_append,List.length_cons];omega
def statsF:List Int:=[200,204,400,404,405,412,413,414,431,503,507]
theorem statF_len:statsF.all (λn=>decide ((statT n).length<=80))=true:=by kernel_rfl
theorem words_mem {n:Int} (h:(!(wordsN n==[]))=true):n∈statsF:=by
 unfold wordsN at h;unfold statsF;by_cases e1:n=200
 ·subst e1;decide
 by_cases e2:n=204
 ·subst e2;decide
 by_cases e3:n=400
 ·subst e3;decide
 by_cases e4:n=404
 ·subst e4;decide
 by_cases e5:n=405
 ·subst e5;decide
 by_cases e6:n=412
 ·subst e6;decide
 by_cases e7:n=413
 ·subst e7;decide
 by_cases e8:n=414
 ·subst e8;decide
 by_cases e9:n=431
 ·subst e9;decide
 by_cases e10:n=503
 ·subst e10;decide
 by_cases e11:n=507
 ·subst e11;decide
 rw[beq_eq_false_iff_ne.2 e1,beq_eq_false_iff_ne.2 e2,beq_eq_false_iff_ne.2 e3,beq_eq_false_iff_ne.2 e4,beq_eq_false_iff_ne.2 e5,beq_eq_false_iff_ne.2 e6,beq_eq_false_iff_ne.2 e7,beq_eq_false_iff_ne.2 e8,beq_eq_false_iff_ne.2 e9,beq_eq_false_iff_ne.2 e10,beq_eq_false_iff_ne.2 e11] at h;cases h
theorem endT_len (n:Int) {b:L8} (h:b.length<=20000) (c:Bool):(endT n b c).length<=20100:=by
 have hi:(Lib.itoa (b.length:Int)).length<=4+1:=itoa_len (k:=4) (u:=b.length) (by omega);unfold endT lenT fmtN;have h0:lenW0.length<=40:=by decide
 cases n !=204<;>cases c
 all_goals simp only[cond_true,cond_false,List.length_append,List.length_cons,List.length_nil]
 all_goals omega
theorem aput_len {a:AnsD} (c:Bool):(aputN a c).length<=30000:=by
 unfold aputN;cases h:amayB a
 ·exact Nat.zero_le _
 rw[xT];obtain⟨n,hs,b,⟨⟩⟩:=a;obtain⟨m1,m2,m3,m4⟩:=amay_len h;have h1:=List.all_eq_true.1 statF_len n (words_mem m1);rw[decide_eq_true_eq] at h1;have h2:=hdsT_len hs m3;have h3:=endT_len n m4 c;show(statT n++hdsT hs++endT n b c).length<=30000;simp only[List.length_append];omega
open Go Go.Eng
def g3 (l:L8) (i:Int) (r:List Bool):List Bool:=decide (i.toNat<l.length)::decide (0<=i)::decide (i<(l.length:Int))::r
def stepL (l:L8) (i:Int) (nx:L8->Option (DenL [.str])):Option (DenL [.str]):=
 bif decide (i<(l.length:Int)) then
  bif decide (((l.getD i.toNat Ty.byte.dflt).toNat:Int)>=65) then
   bif decide (((l.getD i.toNat Ty.byte.dflt).toNat:Int)<=90) then
    gd (decide (inK .i64 (i+1))::decide (i.toNat<l.length)::decide (inK .u8 (IntKind.u8.wrap (((l.getD i.toNat Ty.byte.dflt).toNat:Int)+32)))::decide (0<=i)::decide (i<(l.length:Int))::g3 l i (g3 l i (g3 l i []))) (nx (l.set i.toNat (UInt8.ofNat (IntKind.u8.wrap (((l.getD i.toNat Ty.byte.dflt).toNat:Int)+32)).toNat)))
   else gd (decide (inK .i64 (i+1))::g3 l i (g3 l i [])) (nx l)
  else gd (decide (inK .i64 (i+1))::g3 l i []) (nx l)
 else some (l,())
theorem g3_ok {l:L8} {i:Nat} (h:i<l.length) {r:List Bool} {α:Type} {o:Option α}:gd (g3 l (i:Int) r) o=gd r o:=by
 unfold g3;rw[gdT (show((i:Int)).toNat<l.length from h),gdT (by omega),gdT (by omega)]
theorem lo_upX {c:UInt8} (h1:65<=c.toNat) (h2:c.toNat<=90):UInt8.ofNat (IntKind.u8.wrap ((c.toNat:Int)+32)).toNat=lo c:=by
 have:(List.range 256).all (λn=> !(decide (65<=n)&&decide (n<=90))||(UInt8.ofNat (IntKind.u8.wrap (((UInt8.ofNat n).toNat:Int)+32)).toNat==lo (UInt8.ofNat n)))=true:=by kernel_rfl
 have:=List.all_eq_true.1 this c.toNat (List.mem_range.2 c.toNat_lt);rw[decide_eq_true h1,decide_eq_true h2,UInt8.ofNat_toNat] at this;exact beq_iff_eq.1 this
theorem lo_sameX {c:UInt8} (h:¬(65<=c.toNat/\c.toNat<=90)):lo c=c:=by
 unfold lo;rw[if_neg];rintro⟨a,b⟩;exact h ⟨UInt8.le_iff_toNat_le.1 a,UInt8.le_iff_toNat_le.1 b⟩
end Nice
namespace Go.Proofs.YtldllfocpadkeaaGreatDoor
open Go Go.Eng Nice Go.RowKit
set_option maxRecDepth 1000000
abbrev shrlow:List (Nat×List (Nat×Sh)):=[(3,[(2,(.one .sym)),(3,(.one (.vec .byte 5))),(4,(.one .sym))])]
def hrlow (n:Nat) (t l:L8) (i:Int):Option (DenL [.str]):=rH Tryz.prog (envS []) (shOf shrlow) Tryz.f78 [.str] n 0 [(2,sy (.string (bs t))),(3,dt 10),(4,sy (.int .i64 i))] [.vec .byte l 5]
def orlow (x:DenL [.str]):Option (DenL [.str]):=fO Tryz.prog (envS []) (shOf shrlow) Tryz.f78 [.str] [.str] x
theorem orlow_g (x:DenL [.str]):orlow x=fON Tryz.prog (envS []) (shOf shrlow) Tryz.f78 [.str] [.str] heads0 x:=rfl
theorem erlow_g (N:Nat) (s:L8):fON Tryz.prog (envS []) (shOf shrlow) Tryz.f78 [.str] [.str] N (s,())=hrlow N [] s 0:=by kernel_rfl
theorem erlow_0 (n:Nat) (t l:L8) (i:Int):hrlow (n+1) t l i=stepL l i λl'=>hrlow n t l' (i+1):=by kernel_rfl
theorem rlow_l (t:L8):∀(r:L8) (a:L8) (n:Nat),a.length+r.length<=140737488355328->r.length<n->hrlow n t (a++r) (a.length:Int)=some (a++lower r,())
 |[],a,n,hl,hn=>by
  obtain⟨n,rfl⟩:∃k,n=k+1:=⟨n-1,by omega⟩
  rw[erlow_0];unfold stepL;rw[cdF (by rw[List.append_nil];omega)];rfl
 |c::r,a,n,hl,hn=>by
  obtain⟨n,rfl⟩:∃k,n=k+1:=⟨n-1,by simp only[List.length_cons] at hn;omega⟩
  simp only[List.length_cons] at hl hn;have hlt:a.length<(a++c::r).length:=by simp
  have hg:(a++c::r).getD a.length Ty.byte.dflt=c:=getD_mid a r c _;have key:=rlow_l t r (a++[lo c]) n (by simp;omega) (by omega);have e1:a++[lo c]++r=a++lo c::r:=by simp
  have e2:a++[lo c]++lower r=a++lower (c::r):=by simp[lower]
  rw[e1,e2,List.length_append] at key;simp only[List.length_singleton,Int.natCast_add,Int.natCast_one] at key;have hi:inK .i64 ((a.length:Int)+1):=inK_i64.2 ⟨by omega,by omega⟩;rw[erlow_0];unfold stepL;rw[cdT (by omega),show((a.length:Int)).toNat=a.length from rfl,hg];by_cases h1:(c.toNat:Int)>=65
  ·by_cases h2:(c.toNat:Int)<=90
   ·have hw:=lo_upX (c:=c) (by omega) (by omega);have hu:inK .u8 (IntKind.u8.wrap ((c.toNat:Int)+32)):=inK_u8.2 (by rw[wrap_u8];omega);rw[cdT h1,cdT h2,gdT hi,gdT hlt,gdT hu,gdT (by omega),gdT (by omega),g3_ok hlt,g3_ok hlt,g3_ok hlt,xG,hw,set_mid];exact key
   ·rw[lo_sameX (by omega)] at key;rw[cdT h1,cdF h2,gdT hi,g3_ok hlt,g3_ok hlt,xG];exact key
  ·rw[lo_sameX (by omega)] at key;rw[cdF h1,gdT hi,g3_ok hlt,xG];exact key
theorem rlow_c:PC 78 lowerS:=(pureO (sh:=shOf shrlow) (envS_ok (l:=[]) trivial) gl_ne Tryz.func78 (by kernel_rfl) (by decide)).nice λ⟨s,()⟩ h=>by
 have hs:s.length<=140737488355328:=of_decide_eq_true h;show orlow _=some (lower s,());rw[orlow_g,erlow_g];exact rlow_l [] s [] heads0 (by simpa using hs) (by unfold heads0;omega)
end Go.Proofs.YtldllfocpadkeaaGreatDoor
namespace Nice
open Go Go.Eng
def cH (c:UInt8) (x:Option (DenL [.bool])):Option (DenL [.bool]):=bif (c.toNat:Int) !=45 then bO false else x
def cD (c:UInt8) (x:Option (DenL [.bool])):Option (DenL [.bool]):=bif decide ((c.toNat:Int)<48) then cH c x else bif decide ((c.toNat:Int)>57) then cH c x else x
def cA (c:UInt8) (x:Option (DenL [.bool])):Option (DenL [.bool]):=bif decide ((c.toNat:Int)<97) then cD c x else bif decide ((c.toNat:Int)>122) then cD c x else x
def step1 (nm:L8) (j:Int) (nx nx2:Option (DenL [.bool])):Option (DenL [.bool]):=
 bif decide (j<(nm.length:Int)) then gd [decide (0<=j),decide (j<((lower nm).length:Int)),lowerP nm] (cA ((lower nm).getD j.toNat 0) (gd [decide (inK .i64 (j+1))] nx)) else nx2
def step2 (v:L8) (i j:Int) (nx nx0:Option (DenL [.bool])):Option (DenL [.bool]):=
 bif decide (j<(v.length:Int)) then
  (bif decide (((v.getD j.toNat 0).toNat:Int)<32) then gd [decide (0<=j),decide (j<(v.length:Int))] (bO false)
  else bif decide (((v.getD j.toNat 0).toNat:Int)>126) then gd [decide (0<=j),decide (j<(v.length:Int)),decide (0<=j),decide (j<(v.length:Int))] (bO false)
  else gd [decide (inK .i64 (j+1)),decide (0<=j),decide (j<(v.length:Int)),decide (0<=j),decide (j<(v.length:Int))] nx)
 else gd [decide (inK .i64 (i+1))] nx0
def cV (nm v:L8) (nx:Option (DenL [.bool])):Option (DenL [.bool]):=
 bif !v==[] then
  (bif ((v.getD 0 0).toNat:Int)==32 then gd [decide ((0:Int)<(v.length:Int)),lowerP nm] (bO false)
  else bif ((v.getD ((v.length:Int)-1).toNat 0).toNat:Int)==32 then gd [decide ((0:Int)<=(v.length:Int)-1),decide ((v.length:Int)-1<(v.length:Int)),decide (inK .i64 ((v.length:Int)-1)),decide ((0:Int)<(v.length:Int)),lowerP nm] (bO false)
  else gd [decide ((0:Int)<=(v.length:Int)-1),decide ((v.length:Int)-1<(v.length:Int)),decide (inK .i64 ((v.length:Int)-1)),decide ((0:Int)<(v.length:Int)),lowerP nm] nx)
 else gd [lowerP nm] nx
def step0 (hs:List HeadDW) (i:Int) (nx:HeadDW->Option (DenL [.bool])):Option (DenL [.bool]):=
 bif decide (i<(hs.length:Int)) then gd [decide (i.toNat<hs.length),decide (0<=i),decide (i<(hs.length:Int)),decide (i.toNat<hs.length),decide (0<=i),decide (i<(hs.length:Int))]
  (bif decide (((hs.getD i.toNat (HeadT).dflt).1.length:Int)<1) then bO false
  else bif decide (((hs.getD i.toNat (HeadT).dflt).1.length:Int)>30) then bO false
  else bif decide (((hs.getD i.toNat (HeadT).dflt).2.1.length:Int)>100) then bO false
  else bif lower (hs.getD i.toNat (HeadT).dflt).1==clen then gd [lowerP (hs.getD i.toNat (HeadT).dflt).1] (bO false)
  else cV (hs.getD i.toNat (HeadT).dflt).1 (hs.getD i.toNat (HeadT).dflt).2.1 (nx (hs.getD i.toNat (HeadT).dflt)))
 else bO true
def stepM (n:Int) (hs:List HeadDW) (b:L8) (nx:Option (DenL [.bool])):Option (DenL [.bool]):=
 bif wordsN n==[] then bO false else bif decide ((hs.length:Int)>10) then bO false else bif decide ((b.length:Int)>20000) then bO false else bif n==204 then(bif !b==[] then bO false else nx) else nx
end Nice
namespace Go.Proofs.YtldllfocpadkeaaGreatDoor
open Go Go.Eng Nice Go.RowKit
set_option maxRecDepth 1000000
abbrev shrmay:List (Nat×List (Nat×Sh)):=[(4,[(1,(.obj [.sym,(.dat (.pair .str (.pair .str .unit))),.sym])),(2,(.one .sym)),(3,(.one .sym))]),(10,[(1,(.obj [.sym,(.dat (.pair .str (.pair .str .unit))),.sym])),(2,(.one .sym)),(3,(.one .sym)),(4,(.one .sym)),(5,(.one .sym)),(6,(.one .sym))]),(16,[(1,(.obj [.sym,(.dat (.pair .str (.pair .str .unit))),.sym])),(2,(.one .sym)),(3,(.one .sym)),(4,(.one .sym)),(5,(.one .sym)),(6,(.one .sym)),(8,(.one .sym))])]
def hm0 (k:Nat) (n:Int) (hs:List HeadDW) (b:L8) (q:Bool) (i:Int):Option (DenL [.bool]):=rH Tryz.prog (envS [(77,wordsS),(78,lowerS)]) (shOf shrmay) Tryz.f36 [.bool] k 0 [(1,.pointer (some ⟨11,0,none⟩)),(2,.bool q),(3,sy (.int .i64 i))] [.dat (.pair .str (.pair .str .unit)) hs,.row [sy (.int .i64 n),dt 10,sy (.string (bs b))] 51 false]
def hm1 (k:Nat) (n:Int) (hs:List HeadDW) (b:L8) (q:Bool) (i:Int) (nm v:L8) (j:Int):Option (DenL [.bool]):=rH Tryz.prog (envS [(77,wordsS),(78,lowerS)]) (shOf shrmay) Tryz.f36 [.bool] k 1 [(1,.pointer (some ⟨11,0,none⟩)),(2,.bool q),(3,sy (.int .i64 i)),(4,sy (.string (bs nm))),(5,sy (.string (bs v))),(6,sy (.int .i64 j))] [.dat (.pair .str (.pair .str .unit)) hs,.row [sy (.int .i64 n),dt 10,sy (.string (bs b))] 51 false]
def hm2 (k:Nat) (n:Int) (hs:List HeadDW) (b:L8) (q:Bool) (i:Int) (nm v:L8) (j l:Int):Option (DenL [.bool]):=rH Tryz.prog (envS [(77,wordsS),(78,lowerS)]) (shOf shrmay) Tryz.f36 [.bool] k 2 [(1,.pointer (some ⟨11,0,none⟩)),(2,.bool q),(3,sy (.int .i64 i)),(4,sy (.string (bs nm))),(5,sy (.string (bs v))),(6,sy (.int .i64 j)),(8,sy (.int .i64 l))] [.dat (.pair .str (.pair .str .unit)) hs,.row [sy (.int .i64 n),dt 10,sy (.string (bs b))] 51 false]
def ormay (x:DenL [AnsT]):Option (DenL [.bool]):=fO Tryz.prog (envS [(77,wordsS),(78,lowerS)]) (shOf shrmay) Tryz.f36 [AnsT] [.bool] x
theorem ormay_g (x:DenL [AnsT]):ormay x=fON Tryz.prog (envS [(77,wordsS),(78,lowerS)]) (shOf shrmay) Tryz.f36 [AnsT] [.bool] heads0 x:=rfl
theorem ermay_g (N:Nat) (n:Int) (hs:List HeadDW) (b:L8):fON Tryz.prog (envS [(77,wordsS),(78,lowerS)]) (shOf shrmay) Tryz.f36 [AnsT] [.bool] N ((n,hs,b,()),())=stepM n hs b (hm0 N n hs b false 0):=by kernel_rfl
theorem em0 (k:Nat) (n:Int) (hs:List HeadDW) (b:L8) (q:Bool) (i:Int):hm0 (k+1) n hs b q i=step0 hs i λh=>hm1 k n hs b q i h.1 h.2.1 0:=by kernel_rfl
theorem em1 (k:Nat) (n:Int) (hs:List HeadDW) (b:L8) (q:Bool) (i:Int) (nm v:L8) (j:Int):hm1 (k+1) n hs b q i nm v j=step1 nm j (hm1 k n hs b q i nm v (j+1)) (hm2 k n hs b q i nm v j 0):=by kernel_rfl
theorem em2 (k:Nat) (n:Int) (hs:List HeadDW) (b:L8) (q:Bool) (i:Int) (nm v:L8) (j l:Int):hm2 (k+1) n hs b q i nm v j l=step2 v i l (hm2 k n hs b q i nm v j (l+1)) (hm0 k n hs b q (i+1)):=by kernel_rfl
end Go.Proofs.YtldllfocpadkeaaGreatDoor
namespace Nice
open Go Go.Eng
def tB (n:Nat):Bool:=(decide (97<=n)&&decide (n<=122))||(decide (48<=n)&&decide (n<=57))||decide (n=45)
theorem tB_lo (c:UInt8):tB (lo c).toNat=tokB c:=by
 have:(List.range 256).all (λn=>tB (lo (UInt8.ofNat n)).toNat==tokB (UInt8.ofNat n))=true:=by kernel_rfl
 have:=List.all_eq_true.1 this c.toNat (List.mem_range.2 c.toNat_lt);rw[UInt8.ofNat_toNat] at this;exact beq_iff_eq.1 this
theorem cH_eq (c:UInt8) (x:Option (DenL [.bool])):cH c x=bif decide (c.toNat=45) then x else bO false:=by
 unfold cH bne;by_cases h:c.toNat=45
 ·rw[show((c.toNat:Int)==45)=true from beq_iff_eq.2 (by omega),decide_eq_true h];rfl
 ·rw[show((c.toNat:Int)==45)=false from beq_eq_false_iff_ne.2 (by omega),decide_eq_false h];rfl
theorem cD_eq (c:UInt8) (x:Option (DenL [.bool])):cD c x=bif (decide (48<=c.toNat)&&decide (c.toNat<=57))||decide (c.toNat=45) then x else bO false:=by
 unfold cD;by_cases h1:(c.toNat:Int)<48
 ·rw[cdT h1,cH_eq,decide_eq_false (by omega:¬48<=c.toNat)];rfl
 ·by_cases h2:(c.toNat:Int)>57
  ·rw[cdF h1,cdT h2,cH_eq,decide_eq_false (by omega:¬c.toNat<=57),Bool.and_false];rfl
  ·rw[cdF h1,cdF h2,decide_eq_true (by omega:48<=c.toNat),decide_eq_true (by omega:c.toNat<=57)];rfl
theorem cA_eq (c:UInt8) (x:Option (DenL [.bool])):cA c x=bif tB c.toNat then x else bO false:=by
 unfold cA tB;by_cases h1:(c.toNat:Int)<97
 ·rw[cdT h1,cD_eq,decide_eq_false (by omega:¬97<=c.toNat)];rfl
 ·by_cases h2:(c.toNat:Int)>122
  ·rw[cdF h1,cdT h2,cD_eq,decide_eq_false (by omega:¬c.toNat<=122),Bool.and_false];rfl
  ·rw[cdF h1,cdF h2,decide_eq_true (by omega:97<=c.toNat),decide_eq_true (by omega:c.toNat<=122)];rfl
def endsB (v:L8):Bool:=v==[]||(!((v.getD 0 0).toNat==32)&& !((v.getD (v.length-1) 0).toNat==32))
def headR (h:HeadDW):Bool:=decide (1<=h.1.length)&&(decide (h.1.length<=30)&&(decide (h.2.1.length<=100)&&(!(lower h.1==clen)&&(endsB h.2.1&&(h.1.all tokB&&h.2.1.all prB)))))
end Nice
namespace Go.Proofs.YtldllfocpadkeaaGreatDoor
open Go Go.Eng Nice Go.RowKit
set_option maxRecDepth 1000000
theorem drop_c (s:L8) {i:Nat} (h:i<s.length):s.drop i=s.getD i 0::s.drop (i+1):=by
 rw[List.drop_eq_getElem_cons h,List.getD_eq_getElem?_getD,List.getElem?_eq_getElem h];rfl
theorem m2_l (n:Int) (hs:List HeadDW) (b:L8) (q:Bool) (i:Int) (nm v:L8) (j:Int) (hv:v.length<=100) (hi:inK .i64 (i+1)):∀(r l k:Nat),v.length=l+r->r<k->hm2 k n hs b q i nm v j (l:Int)=bif (v.drop l).all prB then hm0 (k-r-1) n hs b q (i+1) else bO false:=by
 intro r
 induction r with
 |zero=>
  intro l k hl hk;obtain⟨k,rfl⟩:∃m,k=m+1:=⟨k-1,by omega⟩
  rw[em2];unfold step2;rw[cdF (by omega),gdT hi,xG,List.drop_eq_nil_of_le (by omega)];rfl
 |succ r ih=>
  intro l k hl hk;obtain⟨k,rfl⟩:∃m,k=m+1:=⟨k-1,by omega⟩
  have key:=ih (l+1) k (by omega) (by omega);simp only[Int.natCast_add,Int.natCast_one] at key;rw[em2];unfold step2;rw[cdT (by omega),show(l:Int).toNat=l from rfl,drop_c v (by omega),List.all_cons];have hp:prB (v.getD l 0)=(decide (32<=(v.getD l 0).toNat)&&decide ((v.getD l 0).toNat<=126)):=by
   unfold prB;rw[Bool.eq_iff_iff,Bool.and_eq_true,decide_eq_true_iff,decide_eq_true_iff,decide_eq_true_iff]
  rw[hp];by_cases h1:((v.getD l 0).toNat:Int)<32
  ·rw[cdT h1,gdT (by omega),gdT (by omega),xG,decide_eq_false (by omega:¬32<=(v.getD l 0).toNat)];rfl
  ·by_cases h2:((v.getD l 0).toNat:Int)>126
   ·rw[cdF h1,cdT h2,gdT (by omega),gdT (by omega),gdT (by omega),gdT (by omega),xG,decide_eq_false (by omega:¬(v.getD l 0).toNat<=126),Bool.and_false];rfl
   ·rw[cdF h1,cdF h2,gdT (inK_i64.2 ⟨by omega,by omega⟩),gdT (by omega),gdT (by omega),gdT (by omega),gdT (by omega),xG,decide_eq_true (by omega:32<=(v.getD l 0).toNat),decide_eq_true (by omega:(v.getD l 0).toNat<=126),key];simp only[Bool.true_and];rw[show k+1-(r+1)-1=k-r-1 by omega]
theorem low_len (s:L8):(lower s).length=s.length:=by unfold lower;rw[List.length_map]
theorem low_get (s:L8) {i:Nat} (h:i<s.length):(lower s).getD i 0=lo (s.getD i 0):=by
 unfold lower;rw[List.getD_eq_getElem?_getD,List.getElem?_map,List.getElem?_eq_getElem h,List.getD_eq_getElem?_getD,List.getElem?_eq_getElem h];rfl
theorem m1_l (n:Int) (hs:List HeadDW) (b:L8) (q:Bool) (i:Int) (nm v:L8) (hn:nm.length<=30):∀(r j k:Nat),nm.length=j+r->r<k->hm1 k n hs b q i nm v (j:Int)=bif (nm.drop j).all tokB then hm2 (k-r-1) n hs b q i nm v (nm.length:Int) 0 else bO false:=by
 have hlp:lowerP nm=true:=decide_eq_true (by omega);intro r
 induction r with
 |zero=>
  intro j k hj hk;obtain⟨k,rfl⟩:∃m,k=m+1:=⟨k-1,by omega⟩
  rw[em1];unfold step1;rw[cdF (by omega),List.drop_eq_nil_of_le (by omega),show(j:Int)=(nm.length:Int) by omega];rfl
 |succ r ih=>
  intro j k hj hk;obtain⟨k,rfl⟩:∃m,k=m+1:=⟨k-1,by omega⟩
  have key:=ih (j+1) k (by omega) (by omega);simp only[Int.natCast_add,Int.natCast_one] at key;rw[em1];unfold step1;rw[cdT (by omega),show(j:Int).toNat=j from rfl,gdT (by omega),gdT (by rw[low_len];omega),gdB hlp,xG,low_get nm (by omega),cA_eq,tB_lo,drop_c nm (by omega),List.all_cons,gdT (inK_i64.2 ⟨by omega,by omega⟩),xG,key]
  cases tokB (nm.getD j 0)
  ·rfl
  ·rw[xT,Bool.true_and,show k+1-(r+1)-1=k-r-1 by omega]
end Go.Proofs.YtldllfocpadkeaaGreatDoor
namespace Nice
open Go Go.Eng
theorem dw_len (p:UInt8->Bool) (l:L8):(l.dropWhile p).length<=l.length:=(List.dropWhile_sublist p).length_le
theorem n32 {c:UInt8} (h:¬c=32):(c.toNat==32)=false:=beq_eq_false_iff_ne.2 λe=>h (UInt8.toNat_inj.1 e)
theorem trim_ends (v:L8):(trim1 v==v)=endsB v:=by
 unfold trim1 Lib.trimB Lib.trimLeftB Lib.trimRightB endsB;cases hr:v.reverse with
 |nil=>have:v=[]:=List.reverse_eq_nil_iff.1 hr;subst this;rfl
 |cons d m=>
  have hv:v=m.reverse++[d]:=by rw[<-List.reverse_reverse v,hr,List.reverse_cons]
  have hl:v.length=m.length+1:=by rw[hv];simp
  have hd:v.getD (v.length-1) 0=d:=by
   rw[hl,hv,List.getD_eq_getElem?_getD,List.getElem?_append_right (by simp)];simp
  have hne:(v==[])=false:=by rw[hv];cases m.reverse<;>rfl
  rw[hd,hne,Bool.false_or,List.dropWhile_cons];by_cases e:d=32
  ·subst e;rw[if_pos (show((32:UInt8)==32)=true from rfl)];have hn:List.dropWhile (λx=>x==32) (List.dropWhile (λx=>x==32) m).reverse≠v:=λh=>by
    have h1:=congrArg List.length h;have h2:=dw_len (λx=>x==32) (List.dropWhile (λx=>x==32) m).reverse;have h3:=dw_len (λx=>x==32) m;rw[List.length_reverse] at h2;omega
   rw[beq_eq_false_iff_ne.2 hn];show false=(_&&false);rw[Bool.and_false]
  ·rw[if_neg (by rw[beq_iff_eq];exact e),n32 e,<-hr,List.reverse_reverse,Bool.not_false,Bool.and_true];cases v with
   |nil=>cases hne
   |cons c r=>
    show(List.dropWhile (λx=>x==32) (c::r)==c::r)= !(c.toNat==32);rw[List.dropWhile_cons];by_cases f:c=32
    ·subst f;rw[if_pos (show((32:UInt8)==32)=true from rfl)];have hn:List.dropWhile (λx=>x==32) r≠32::r:=λh=>by
      have h1:=congrArg List.length h;have h2:=dw_len (λx=>x==32) r;rw[List.length_cons] at h1;omega
     rw[beq_eq_false_iff_ne.2 hn];rfl
    ·rw[if_neg (by rw[beq_iff_eq];exact f),n32 f,beq_self_eq_true];rfl
theorem headR_eq (h:HeadDW):headR h=headB h:=by
 unfold headR headB;rw[trim_ends,Bool.eq_iff_iff];simp only[Bool.and_eq_true,decide_eq_true_eq];constructor
 ·rintro⟨a,b,c,d,e,f,g⟩;exact⟨⟨⟨a,b⟩,f,d⟩,c,g,e⟩
 ·rintro⟨⟨⟨a,b⟩,f,d⟩,c,g,e⟩;exact⟨a,b,c,d,e,f,g⟩
theorem i32W (c:UInt8):((c.toNat:Int)==32)=(c.toNat==32):=by
 by_cases h:c.toNat=32
 ·rw[h];rfl
 ·rw[beq_eq_false_iff_ne.2 h,beq_eq_false_iff_ne.2 (λe=>h (by omega))]
theorem cV_eq {nm v:L8} (hn:nm.length<=30) (hv:v.length<=100) (x:Option (DenL [.bool])):cV nm v x=bif endsB v then x else bO false:=by
 have hlp:lowerP nm=true:=decide_eq_true (by omega);unfold cV endsB;by_cases e:v=[]
 ·subst e;show gd [lowerP nm] x=x;rw[gdB hlp,xG]
 ·have hl:0<v.length:=List.length_pos_iff.2 e;rw[beq_eq_false_iff_ne.2 e,Bool.not_false,xT,Bool.false_or,i32W,i32W,show((v.length:Int)-1).toNat=v.length-1 by omega];cases(v.getD 0 0).toNat==32
  ·rw[xF];cases(v.getD (v.length-1) 0).toNat==32
   ·rw[xF,gdT (by omega),gdT (by omega),gdT (inK_i64.2 ⟨by omega,by omega⟩),gdT (by omega),gdB hlp,xG];rfl
   ·rw[xT,gdT (by omega),gdT (by omega),gdT (inK_i64.2 ⟨by omega,by omega⟩),gdT (by omega),gdB hlp,xG];rfl
  ·rw[xT,gdT (by omega),gdB hlp,xG];rfl
theorem all_any (l:List HeadDW):l.all headR= !anyN l:=by
 unfold anyN
 induction l with
 |nil=>rfl
 |cons a l ih=>rw[List.all_cons,List.any_cons,ih,headR_eq,Bool.not_or,Bool.not_not]
end Nice
namespace Go.Proofs.YtldllfocpadkeaaGreatDoor
open Go Go.Eng Nice Go.RowKit
set_option maxRecDepth 1000000
theorem dropH (l:List HeadDW) {i:Nat} (h:i<l.length):l.drop i=l.getD i (HeadT).dflt::l.drop (i+1):=by
 rw[List.drop_eq_getElem_cons h,List.getD_eq_getElem?_getD,List.getElem?_eq_getElem h];rfl
theorem m0_l (n:Int) (hs:List HeadDW) (b:L8) (q:Bool) (hb:hs.length<=10):∀(r i k:Nat),hs.length=i+r->200*r<k->hm0 k n hs b q (i:Int)=bO ((hs.drop i).all headR):=by
 intro r
 induction r with
 |zero=>
  intro i k hi hk;obtain⟨k,rfl⟩:∃m,k=m+1:=⟨k-1,by omega⟩
  rw[em0];unfold step0;rw[cdF (by omega),List.drop_eq_nil_of_le (by omega)];rfl
 |succ r ih=>
  intro i k hi hk;obtain⟨k,rfl⟩:∃m,k=m+1:=⟨k-1,by omega⟩
  have hlt:i<hs.length:=by omega
  have h64:inK .i64 ((i:Int)+1):=inK_i64.2 ⟨by omega,by omega⟩;rw[em0];unfold step0;rw[cdT (by omega),show(i:Int).toNat=i from rfl,gdT hlt,gdT (by omega),gdT (by omega),gdT hlt,gdT (by omega),gdT (by omega),xG,dropH hs hlt,List.all_cons];generalize hs.getD i (HeadT).dflt=h;obtain⟨nm,v,⟨⟩⟩:=h;unfold headR
  dsimp only;by_cases a1:1<=nm.length
  ·by_cases a2:nm.length<=30
   ·by_cases a3:v.length<=100
    ·have hlp:lowerP nm=true:=decide_eq_true (by omega);rw[cdF (by omega),cdF (by omega),cdF (by omega),decide_eq_true a1,decide_eq_true a2,decide_eq_true a3,cV_eq a2 a3];have k1:=m1_l n hs b q i nm v a2 nm.length 0 k (by omega) (by omega);have k2:=m2_l n hs b q i nm v (nm.length:Int) a3 h64 v.length 0 (k-nm.length-1) (by omega) (by omega)
     have k3:=ih (i+1) (k-nm.length-1-v.length-1) (by omega) (by omega);simp only[Int.natCast_add,Int.natCast_one] at k3;rw[k3] at k2;have k1:hm1 k n hs b q i nm v 0=bif nm.all tokB then hm2 (k-nm.length-1) n hs b q i nm v (nm.length:Int) 0 else bO false:=k1;have k2:hm2 (k-nm.length-1) n hs b q i nm v (nm.length:Int) 0=bif v.all prB then bO ((hs.drop (i+1)).all headR) else bO false:=k2
     rw[k1,k2];cases lower nm==clen
     ·rw[xF];cases endsB v
      ·rfl
      ·cases nm.all tokB
       ·rfl
       ·cases v.all prB<;>rfl
     ·rw[xT,gdB hlp,xG];rfl
    ·rw[cdF (by omega),cdF (by omega),cdT (by omega),decide_eq_true a1,decide_eq_true a2,decide_eq_false a3];rfl
   ·rw[cdF (by omega),cdT (by omega),decide_eq_true a1,decide_eq_false a2];rfl
  ·rw[cdT (by omega),decide_eq_false a1];rfl
theorem rmay_n (n:Int) (hs:List HeadDW) (b:L8):stepM n hs b (hm0 heads0 n hs b false 0)=some (amayB (n,hs,b,()),()):=by
 unfold stepM amayB;dsimp only;cases hw:wordsN n==[]
 ·rw[xF];by_cases a:hs.length<=10
  ·by_cases c:b.length<=20000
   ·rw[cdF (by omega),cdF (by omega),decide_eq_true a,decide_eq_true c,show hm0 heads0 n hs b false 0=bO (hs.all headR) from m0_l n hs b false a hs.length 0 heads0 (by omega) (by unfold heads0;omega),all_any];cases n==204
    ·rw[xF];cases anyN hs<;>rfl
    ·rw[xT];cases b==[]<;>cases anyN hs<;>rfl
   ·rw[cdF (by omega),cdT (by omega),decide_eq_false c,Bool.false_and,Bool.and_false,Bool.and_false,Bool.and_false];rfl
  ·rw[cdT (by omega),decide_eq_false a,Bool.false_and,Bool.and_false];rfl
 ·rw[xT];rfl
theorem rmay_c:PC 36 amayAS:=(pureO (sh:=shOf shrmay) (envS_ok (l:=[(77,wordsS),(78,lowerS)]) ⟨rwords_c,rlow_c,trivial⟩) gl_ne Tryz.func36 (by kernel_rfl) (by decide)).nice λ⟨⟨n,hs,b,()⟩,()⟩ _=>by
 show ormay _=_;rw[ormay_g,ermay_g];exact rmay_n n hs b
end Go.Proofs.YtldllfocpadkeaaGreatDoor
namespace Nice
open Go Go.Eng
theorem digsF_decQ:∀(f n:Nat) (acc:L8),n<10^f->0<f->digsF f n acc=Lib.decDigits n++acc
 |0,n,acc,_,h=>absurd h (Nat.lt_irrefl 0)
 |f+1,n,acc,h,_=>by
  rw[Lib.decDigits];unfold digsF;by_cases e:n<10
  ·rw[if_pos (by omega),dif_pos e,show n%10=n by omega];rfl
  ·have h1:n/10<10^f:=by rw[Nat.pow_succ] at h;omega
   have h2:0<f:=by
    rcases Nat.eq_zero_or_pos f with h'|h'
    ·subst h';simp at h;omega
    ·exact h'
   rw[if_neg (by omega),dif_neg e,digsF_decQ f (n/10) _ h1 h2,List.append_assoc];rfl
theorem digits_fmtQ {n:Int} (h:i64P n=true):digits n=fmtN n:=by
 unfold i64P at h;rw[Bool.and_eq_true,decide_eq_true_eq,decide_eq_true_eq] at h;unfold digits digs;show _=Lib.itoa n;unfold Lib.itoa;by_cases e:n<0
 ·rw[if_pos e,if_pos e,digsF_decQ 20 _ _ (by omega) (by omega),List.append_nil,show(-n).toNat=n.natAbs by omega]
 ·rw[if_neg e,if_neg e,digsF_decQ 20 _ _ (by omega) (by omega),List.append_nil]
def lenD (k:Int):L8:=lenW0++digits k++[13,10]
def statD (n:Int):L8:=lineB++digits n++[32]++wordsN n++[13,10]
def finQ (c:Bool) (n:Int) (b t:L8):Option (DenL [.str]):=
 bif n !=204 then gd [decide ((t++lenD (b.length:Int)).length+2<=1099511627776),decide (t.length+(lenD (b.length:Int)).length<=1099511627776),decide ((lenW0++digits (b.length:Int)).length+2<=1099511627776),decide (16+(digits (b.length:Int)).length<=1099511627776),i64P (b.length:Int)]
  (bif c then some (t++lenD (b.length:Int)++[13,10],()) else gd [decide ((t++lenD (b.length:Int)++[13,10]).length+b.length<=1099511627776)] (some (t++lenD (b.length:Int)++[13,10]++b,())))
 else gd [decide (t.length+2<=1099511627776)] (bif c then some (t++[13,10],()) else gd [decide ((t++[13,10]).length+b.length<=1099511627776)] (some (t++[13,10]++b,())))
def stepQ (c:Bool) (n:Int) (b t:L8) (l:List HeadDW) (i:Int) (next:Option (DenL [.str])):Option (DenL [.str]):=
 bif decide (i<(l.length:Int)) then gd [decide (inK .i64 (i+1)),decide (t.length+(hdT (l.getD i.toNat (HeadT).dflt)).length<=1099511627776),decide (((l.getD i.toNat (HeadT).dflt).1++[58,32]++(l.getD i.toNat (HeadT).dflt).2.1).length+2<=1099511627776),decide (((l.getD i.toNat (HeadT).dflt).1++[58,32]).length+(l.getD i.toNat (HeadT).dflt).2.1.length<=1099511627776),decide (i.toNat<l.length),decide (0<=i),decide (i<(l.length:Int)),decide ((l.getD i.toNat (HeadT).dflt).1.length+2<=1099511627776),decide (i.toNat<l.length),decide (0<=i),decide (i<(l.length:Int))] next
 else finQ c n b t
theorem finQ_n {c:Bool} {n:Int} {b t:L8} (hb:b.length<=20000) (ht:t.length<=100000):finQ c n b t=some (t++endT n b c,()):=by
 have h0:=i64_nat hb;have h1:=itoa_20 hb;have h2:lenW0.length=16:=rfl;have h4:lenD (b.length:Int)=lenT (b.length:Int):=by unfold lenD lenT;rw[digits_fmtQ h0]
 have h3:(lenT (b.length:Int)).length<=40:=by
  unfold lenT;simp only[List.length_append,List.length_cons,List.length_nil];omega
 unfold finQ endT;rw[h4,digits_fmtQ h0];cases n !=204
 ·rw[xF,xF,gdT (by omega),xG];cases c
  ·rw[xF,xF,gdT (by simp only[List.length_append,List.length_cons,List.length_nil];omega),xG,List.append_assoc]
  ·rw[xT,xT,List.append_nil]
 ·rw[xT,xT,gdT (by rw[List.length_append];omega),gdT (by omega),gdT (by rw[List.length_append];omega),gdT (by omega),gdB h0,xG];cases c
  ·rw[xF,xF,gdT (by simp only[List.length_append,List.length_cons,List.length_nil];omega),xG];simp only[List.append_assoc]
  ·rw[xT,xT,List.append_nil];simp only[List.append_assoc]
end Nice
namespace Go.Proofs.YtldllfocpadkeaaGreatDoor
open Go Go.Eng Nice Go.RowKit
set_option maxRecDepth 1000000
abbrev shrput:List (Nat×List (Nat×Sh)):=[(5,[(1,(.one .sym)),(2,(.obj [.sym,(.dat (.pair .str (.pair .str .unit))),.sym])),(4,(.one .sym)),(5,(.one .sym)),(6,(.one .sym))])]
def hrput (k:Nat) (c:Bool) (n:Int) (hs:List HeadDW) (b l t:L8) (i:Int):Option (DenL [.str]):=rH Tryz.prog (envS [(36,amayAS),(77,wordsS),(61,digitsS)]) (shOf shrput) Tryz.f33 [.str] k 0 [(1,.bool c),(2,.pointer (some ⟨11,0,none⟩)),(4,sy (.string (bs l))),(5,sy (.string (bs t))),(6,sy (.int .i64 i))] [.dat (.pair .str (.pair .str .unit)) hs,.row [sy (.int .i64 n),dt 10,sy (.string (bs b))] 51 false]
def orput (x:DenL [AnsT,.bool]):Option (DenL [.str]):=fO Tryz.prog (envS [(36,amayAS),(77,wordsS),(61,digitsS)]) (shOf shrput) Tryz.f33 [AnsT,.bool] [.str] x
theorem orput_g (x:DenL [AnsT,.bool]):orput x=fON Tryz.prog (envS [(36,amayAS),(77,wordsS),(61,digitsS)]) (shOf shrput) Tryz.f33 [AnsT,.bool] [.str] heads0 x:=rfl
theorem erput_g (N:Nat) (n:Int) (hs:List HeadDW) (b:L8) (c:Bool):fON Tryz.prog (envS [(36,amayAS),(77,wordsS),(61,digitsS)]) (shOf shrput) Tryz.f33 [AnsT,.bool] [.str] N ((n,hs,b,()),c,())=
 (bif amayB (n,hs,b,()) then gd [decide ((lineB++digits n++[32]++wordsN n).length+2<=1099511627776),decide ((lineB++digits n++[32]).length+(wordsN n).length<=1099511627776),decide ((lineB++digits n).length+1<=1099511627776),decide (9+(digits n).length<=1099511627776),i64P n,aputP (n,hs,b,())] (hrput N c n hs b [] (statD n) 0)
  else gd [aputP (n,hs,b,())] (some ([],()))):=by kernel_rfl
theorem erput_0 (k:Nat) (c:Bool) (n:Int) (hs:List HeadDW) (b l t:L8) (i:Int):hrput (k+1) c n hs b l t i=stepQ c n b t hs i (hrput k c n hs b l (t++hdT (hs.getD i.toNat (HeadT).dflt)) (i+1)):=by kernel_rfl
theorem rput_l (c:Bool) (n:Int) (ls:List HeadDW) (b l:L8) (hb:b.length<=20000) (hl:ls.length<=10) (hh:∀x,x∈ls->headB x=true):∀(r i k:Nat) (t:L8),ls.length=i+r->r<k->t.length<=1000+200*i->hrput k c n ls b l t (i:Int)=some (t++hdsT (ls.drop i)++endT n b c,()):=by
 intro r
 induction r with
 |zero=>
  intro i k t hi hk ht;obtain⟨k,rfl⟩:∃m,k=m+1:=⟨k-1,by omega⟩
  rw[erput_0];unfold stepQ;rw[cdF (by omega),finQ_n hb (by omega),List.drop_eq_nil_of_le (by omega)];show _=some (t++[]++_,());rw[List.append_nil]
 |succ r ih=>
  intro i k t hi hk ht;obtain⟨k,rfl⟩:∃m,k=m+1:=⟨k-1,by omega⟩
  have hlt:i<ls.length:=by omega
  have hd:ls.drop i=ls.getD i (HeadT).dflt::ls.drop (i+1):=by
   rw[List.drop_eq_getElem_cons hlt,List.getD_eq_getElem?_getD,List.getElem?_eq_getElem hlt];rfl
  have hx:headB (ls.getD i (HeadT).dflt)=true:=hh _ (by
   rw[List.getD_eq_getElem?_getD,List.getElem?_eq_getElem hlt];exact List.getElem_mem hlt)
  obtain⟨l1,l2⟩:=headB_len hx;have l3:(hdT (ls.getD i (HeadT).dflt)).length<=200:=by
   unfold hdT;simp only[List.length_append,List.length_cons,List.length_nil];omega
  have:=ih (i+1) k (t++hdT (ls.getD i (HeadT).dflt)) (by omega) (by omega) (by rw[List.length_append];omega);simp only[Int.natCast_add,Int.natCast_one] at this;rw[erput_0];unfold stepQ;rw[cdT (by omega),show(i:Int).toNat=i from rfl,gdT (inK_i64.2 ⟨by omega,by omega⟩),gdT (by omega),gdT (by simp only[List.length_append,List.length_cons,List.length_nil];omega),gdT (by simp only[List.length_append,List.length_cons,List.length_nil];omega),gdT (by omega),gdT (by omega),gdT (by omega),gdT (by omega),gdT (by omega),gdT (by omega),gdT (by omega),xG,this,hd]
  show some (_++_++_,())=some (t++(hdT (ls.getD i (HeadT).dflt)++hdsT (ls.drop (i+1)))++_,());rw[List.append_assoc t]
theorem rput_c:PC 33 aputS:=(pureO (sh:=shOf shrput) (envS_ok (l:=[(36,amayAS),(77,wordsS),(61,digitsS)]) ⟨rmay_c,rwords_c,digits_c,trivial⟩) gl_ne Tryz.func33 (by kernel_rfl) (by decide)).nice λ⟨⟨n,hs,b,()⟩,c,()⟩ h=>by
 have h:aputP (n,hs,b,())=true:=h;show orput _=some (aputN (n,hs,b,()) c,());rw[orput_g,erput_g];unfold aputN;cases hm:amayB (n,hs,b,())
 ·rw[xF,xF,gdB h,xG]
 ·obtain⟨m1,m2,m3,m4⟩:=amay_len hm;obtain⟨a1,a2,a3⟩:=st_len m1;have ll:lineB.length=9:=rfl;have he:statD n=statT n:=by unfold statD statT;rw[digits_fmtQ a3]
  have hw:(statT n).length<=80:=by
   unfold statT;simp only[List.length_append,List.length_cons,List.length_nil];omega
  rw[xT,xT,he,digits_fmtQ a3,gdT (by simp only[List.length_append,List.length_cons,List.length_nil];omega),gdT (by simp only[List.length_append,List.length_cons,List.length_nil];omega),gdT (by simp only[List.length_append];omega),gdT (by omega),gdB a3,gdB h,xG];exact rput_l c n hs b [] m4 m2 m3 hs.length 0 heads0 _ (by omega) (by unfold heads0;omega) (by omega)
end Go.Proofs.YtldllfocpadkeaaGreatDoor
namespace Nice
open Go Go.Eng
def cutHd (h:HeadDW):HeadDW:=(cut h.1 32,cut h.2.1 102,())
def answN (a:AnsD):AnsD:=(a.1,(a.2.1.take 12).map cutHd,cut a.2.2.1 400,())
def answS:PSpec:=⟨[AnsT],[AnsT],λ_=>true,λx=>(answN x.1,())⟩
def stepA (n:Int) (hs:List HeadDW) (b:L8) (l:List HeadDW) (i:Int) (nx:List HeadDW->Option (DenL [AnsT])):Option (DenL [AnsT]):=
 bif decide (i<(hs.length:Int)) then
  bif decide (i<12) then gd [decide (inK .i64 (i+1)),decide ((2*(l.length+[cutHd (hs.getD i.toNat (HeadT).dflt)].length)+400)*32<=281474976710656),decide (i.toNat<hs.length),decide (0<=i),decide (i<(hs.length:Int)),decide (i.toNat<hs.length),decide (0<=i),decide (i<(hs.length:Int))] (nx (l++[cutHd (hs.getD i.toNat (HeadT).dflt)]))
  else some ((n,l,cut b 400,()),())
 else some ((n,l,cut b 400,()),())
end Nice
namespace Go.Proofs.YtldllfocpadkeaaGreatDoor
open Go Go.Eng Nice Go.RowKit
set_option maxRecDepth 1000000
abbrev shansw:List (Nat×List (Nat×Sh)):=[(3,[(1,(.obj [.sym,(.dat (.pair .str (.pair .str .unit))),.sym])),(2,(.obj [.sym,.any,.sym])),(3,(.one (.vec HeadT 101))),(4,(.one .sym))])]
def hansw (k:Nat) (n:Int) (hs:List HeadDW) (b:L8) (m:Int) (c:L8) (l:List HeadDW) (i:Int):Option (DenL [AnsT]):=rH Tryz.prog (envS [(28,cutS)]) (shOf shansw) Tryz.f37 [AnsT] k 0 [(1,.pointer (some ⟨11,0,none⟩)),(2,.pointer (some ⟨12,0,none⟩)),(3,dt 13),(4,sy (.int .i64 i))] [.dat (.pair .str (.pair .str .unit)) hs,.row [sy (.int .i64 n),dt 10,sy (.string (bs b))] 51 false,.row [sy (.int .i64 m),Value.slice none 0 0,sy (.string (bs c))] 51 false,.vec HeadT l 101]
def oansw (x:DenL [AnsT]):Option (DenL [AnsT]):=fO Tryz.prog (envS [(28,cutS)]) (shOf shansw) Tryz.f37 [AnsT] [AnsT] x
theorem eansw_g (N:Nat) (n:Int) (hs:List HeadDW) (b:L8):fON Tryz.prog (envS [(28,cutS)]) (shOf shansw) Tryz.f37 [AnsT] [AnsT] N ((n,hs,b,()),())=hansw N n hs b 0 [] [] 0:=by kernel_rfl
theorem oansw_g (x:DenL [AnsT]):oansw x=fON Tryz.prog (envS [(28,cutS)]) (shOf shansw) Tryz.f37 [AnsT] [AnsT] heads0 x:=rfl
theorem eansw_0 (k:Nat) (n:Int) (hs:List HeadDW) (b:L8) (m:Int) (c:L8) (l:List HeadDW) (i:Int):hansw (k+1) n hs b m c l i=stepA n hs b l i λl'=>hansw k n hs b m c l' (i+1):=by kernel_rfl
theorem answ_l (n:Int) (hs:List HeadDW) (b:L8) (m:Int) (c:L8):∀(r i k:Nat) (l:List HeadDW),12=i+r->r<k->l.length<=i->hansw k n hs b m c l (i:Int)=some ((n,l++((hs.drop i).take r).map cutHd,cut b 400,()),()):=by
 intro r
 induction r with
 |zero=>
  intro i k l hi hk hl;obtain⟨k,rfl⟩:∃m,k=m+1:=⟨k-1,by omega⟩
  rw[eansw_0];unfold stepA;rw[cdF (show ¬(i:Int)<12 by omega),List.take_zero,List.map_nil,List.append_nil];cases decide ((i:Int)<(hs.length:Int))<;>rfl
 |succ r ih=>
  intro i k l hi hk hl;obtain⟨k,rfl⟩:∃m,k=m+1:=⟨k-1,by omega⟩
  rw[eansw_0];unfold stepA;by_cases h1:i<hs.length
  ·have d1:hs.drop i=hs.getD i (HeadT).dflt::hs.drop (i+1):=by
    rw[List.drop_eq_getElem_cons h1,List.getD_eq_getElem?_getD,List.getElem?_eq_getElem h1];rfl
   have:=ih (i+1) k (l++[cutHd (hs.getD i (HeadT).dflt)]) (by omega) (by omega) (by rw[List.length_append,List.length_singleton];omega);simp only[Int.natCast_add,Int.natCast_one] at this;rw[cdT (by omega),cdT (by omega),show(i:Int).toNat=i from rfl,gdT (inK_i64.2 ⟨by omega,by omega⟩),gdT (by rw[List.length_singleton];omega),gdT h1,gdT (by omega),gdT (by omega),gdT h1,gdT (by omega),gdT (by omega),xG]
   refine Eq.trans this ?_;rw[d1,List.take_succ_cons,List.map_cons,List.append_assoc];rfl
  ·rw[cdF (by omega),List.drop_eq_nil_of_le (by omega),List.take_nil,List.map_nil,List.append_nil]
theorem answ_c:PC 37 answS:=(pureO (sh:=shOf shansw) (envS_ok (l:=[(28,cutS)]) ⟨cut_c,trivial⟩) gl_ne Tryz.func37 (by kernel_rfl) (by decide)).nice λ⟨⟨n,hs,b,()⟩,()⟩ _=>by
 show oansw _=some ((n,(hs.take 12).map cutHd,cut b 400,()),());rw[oansw_g,eansw_g];exact answ_l n hs b 0 [] 12 0 heads0 [] rfl (by unfold heads0;omega) (Nat.zero_le _)
