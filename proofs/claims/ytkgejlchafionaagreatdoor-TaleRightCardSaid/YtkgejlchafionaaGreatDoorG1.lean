/-
  Part of the proof. No condition.
-/
import Derived.Shelf.Strconv.AtoiAll
import Derived.Shelf.GgClosure.StringsIndexFuncTop
import Derived.Shelf.Strconv.ParseIntPublic10
import Derived.Test.YtkgejlchafionaaGreatDoorSym
import Derived.Lib.ParseIntBCases
import Derived.Lib.SplitLaws
import Derived.Lib.TrimByte
import Derived.Lib.Case
open Bool renaming and_eq_true->A0,false->AK,false_eq_true->CI,or_eq_true->ED,true->AD
open Decidable renaming decide->AG
open Go.FloatKind renaming f64->BV
open Go.IntKind renaming u8->FJ
open Go.Lib renaming count->AAA,cut->I4,idxFunc->AAB,idxFuncFrom->sN,index->Uw,parseIntB->PF,parseIntB_plain->AAC,parseUintB->AAD,parseUintM->ANx,split->MA
open Go.Utf8 renaming decode->ANy
open Ieee renaming double->Fx,signed->RO
open Ieee.Datum renaming integral->r5,order->ANP
open Ieee.Format renaming nearest->Uo,read->ia
open Ieee.Toward renaming cut->bl
open Iff renaming rfl->AAE
open Int renaming compare_eq_gt->RP,natAbs_natCast->Up,natCast_add->Dz,ofNat_lt->AAF,tdiv_eq_ediv_of_nonneg->Ud,toNat_natCast->Hu
open List renaming all_cons->L7,any_cons->AAG,append_assoc->C9,drop_eq_nil_of_le->GY,isPrefixOf->AAH,length_append->BA,length_cons->B7,length_nil->E8,length_singleton->EL,singleton_append->Gq,take->Ko,take_of_length_le->GB
open Nat renaming add_zero->FK,compare_eq_eq->AAI,compare_eq_gt->AAJ,compare_eq_lt->AAK,le_refl->Ak,log2_lt->Uq,log2_self_le->AAL,lt_succ_self->bt,lt_trichotomy->L9,min_eq_left->MH,mul_lt_mul_of_pos_right->Ur,mul_pos->bu,pow_add->Kw,shiftLeft_eq->MI,two_pow_pos->I8
open Option renaming none->AF,some->AC
open UInt8 renaming ofNat->Cj
open UInt8.toNat renaming inj->rP
open _root_ renaming Bool->AH,ByteArray->Cg,Decidable->sP,Int->AA,List->AE,Nat->AB,Option->AP,UInt8->Bo,Unit->ET,absurd->Aq,beq_eq_false_iff_ne->CE,cond_false->BZ,cond_true->Ag,decide_eq_decide->bw,decide_eq_false->BP,decide_eq_false_iff_not->Ut,decide_eq_true->BK,decide_eq_true_eq->A6,decide_eq_true_iff->RJ,if_false->BR,if_neg->AY,if_pos->Ae,of_decide_eq_true->BL,rfl->AL
set_option maxRecDepth 1000000
open Go Go.Eng
noncomputable section
namespace Nice
def lo(c:Bo):Bo:=if 65<=c/\c<=90 then c+32 else c
def Ek(s:L8):L8:=s.map lo
def Hn(s:L8):AH:=AG (s.length<=140737488355328)
def Mr(c:Bo):AH:=AG (65<=c/\c<=90)
def Ji(c:Bo):AH:=AG (48<=c/\c<=57)
def Ba:AE (L8×L8×ET)->L8->L8×AH
 |[],_=>([],AK)
 |h::r,n=>bif Ek h.1==Ek n then(h.2.1,AD)else Ba r n
def HI(l:AE (L8×L8×ET))(n:L8):AH:=AG (l.length<=140737488355328)&&(Hn n&&l.all λh=>Hn h.1)
def E3(s:L8):AH:=s.all Ji
def On(s:L8):AB:=s.foldl (λn c=>n*10+(c.toNat-48)) 0
def cut(s:L8)(n:AA):L8:=s.take n.toNat
theorem Bn{α:Type}{p:Prop}[sP p]{a b:α}(h:p):(bif AG p then a else b)=a:=by simp[h]
theorem Bm{α:Type}{p:Prop}[sP p]{a b:α}(h:¬p):(bif AG p then a else b)=b:=by simp[h]
theorem Cm{α:Type}{r:AP α}:gd [] r=r:=AL
theorem An{α:Type}{p:Prop}[sP p]{l:AE AH}{r:AP α}(h:p):gd (AG p::l) r=gd l r:=by simp[gd,h]
theorem BG{α:Type}{b:AH}{l:AE AH}{r:AP α}(h:b=AD):gd (b::l) r=gd l r:=by simp[gd,h]
theorem AZ{n:AA}:A4 .i64 n↔ -9223372036854775808<=n/\n<=9223372036854775807:=AAE
theorem NX{n:AA}:A4 .u8 n↔0<=n/\n<=255:=AAE
theorem SG{n:AA}:FJ.wrap n=n%256:=AL
theorem Hc{α:Type}(a b:AE α)(x d:α):(a++x::b).getD a.length d=x:=by simp
theorem vW{α:Type}(a b:AE α)(x y:α):(a++x::b).set a.length y=a++y::b:=by simp
theorem x5{a c:Bo}:a<=c↔a.toNat<=c.toNat:=UInt8.le_iff_toNat_le
theorem Jj{c:Bo}:Mr c=AD↔65<=c.toNat/\c.toNat<=90:=by
 unfold Mr;rw[RJ,x5,x5];rfl
theorem H7{c:Bo}:Ji c=AD↔48<=c.toNat/\c.toNat<=57:=by
 unfold Ji;rw[RJ,x5,x5];rfl
theorem AHw{c:Bo}(a:65<=c.toNat)(b:c.toNat<=90):lo c=Cj (c.toNat+32):=by
 unfold lo;rw[Ae ⟨x5.2 a,x5.2 b⟩];apply rP;simp
theorem ADl{c:Bo}(h:¬(65<=c.toNat/\c.toNat<=90)):lo c=c:=by
 unfold lo;rw[AY];rintro⟨a,b⟩;exact h ⟨x5.1 a,x5.1 b⟩
abbrev Gp:Ty:=.pair .str (.pair .str .unit)
abbrev CS:Ty:=.pair .str (.pair .str (.pair .str (.pair (.slice Gp) (.pair .str .unit))))
def p4:PSpec:=⟨[],[.bool],λ_=>AD,λ_=>(AD,())⟩
def QC:PSpec:=⟨[.str],[.str],λx=>Hn x.1,λx=>(Ek x.1,())⟩
def ky:PSpec:=⟨[.byte],[.bool],λ_=>AD,λx=>(Mr x.1,())⟩
def UG:PSpec:=⟨[CS,.str],[.str,.bool],λx=>HI x.1.2.2.2.1 x.2.1,λx=>((Ba x.1.2.2.2.1 x.2.1).1,(Ba x.1.2.2.2.1 x.2.1).2,())⟩
def ADm:PSpec:=⟨[.str,.int .i64],[.str],λx=>AG (0<=x.2.1),λx=>(cut x.1 x.2.1,())⟩
def El(c:Bo):AH:=AG (97<=c.toNat/\c.toNat<=122\/48<=c.toNat/\c.toNat<=57\/c.toNat=46\/c.toNat=45\/c.toNat=95\/c.toNat=47)
def isKey(s:L8):AH:=s.all El&&(AG (1<=s.length)&&AG (s.length<=40))
def Aw(s:L8):AH:=AG (s.length<=140737488355328)
def notDig(r:AB):AH:=AG (r<48)||AG (57<r)
def p5(s:L8):AA:=AAB notDig AD (bs s)
def Es(s:L8):AA×AH:=match PF 64 s with
 | .ok v=>(v,AD)
 |Lib.NumEnd.syntax=>(0,AK)
 | .range=>(Lib.intSat 64 s,AK)
def Ho(s:L8)(a lo b:AA):AA×AH:=((Es s).1,E3 s&&((Es s).2&&(AG ((s.length:AA)<=a)&&(AG ((Es s).1>=lo)&&AG ((Es s).1<=b)))))
def Bt(s p:L8):AH:=AG (p.length<=s.length)&&s.take p.length==p
def KU(s p:L8):AH:=AG (p.length<=s.length)&&s.drop (s.length-p.length)==p
def CK(s p:L8):L8×AH:=bif Bt s p then(s.drop p.length,AD)else(s,AK)
def HJ(s p:L8):L8×AH:=bif KU s p then(s.take (s.length-p.length),AD)else(s,AK)
def Oo:AB->AB->L8->L8
 |0,_,a=>a
 |f+1,n,a=>if n/10=0 then Cj (48+n%10)::a else Oo f (n/10) (Cj (48+n%10)::a)
def Oq(u:AA):L8:=Oo 20 u.toNat []
def D9(n:AA):L8:=if n<0 then 45::Oq (-n)else Oq n
def KV:L8:=[118,101,114,115,105,111,110,61]
def Gj:AA×L8×AA×L8×AA×L8×L8×L8×AA×AH×ET:=(0,[],0,[],0,[],[],[],0,AK,())
theorem YJ{s:Cg}{i:AB}(h:(s.get! i).toNat<128):ANy s i=((s.get! i).toNat,1):=by
 unfold ANy;simp only[FK];rw[Ae (show(s.get! i).toNat<0x80 from h)]
theorem ae{s:Cg}{i:AB}(h:128<=(s.get! i).toNat):57<(ANy s i).1:=by
 unfold ANy;simp only[FK];rw[AY (show ¬(s.get! i).toNat<0x80 by omega)];have d:57<Utf8.runeError:=by decide
 have e:∀(c:AB) (b:AH) (k:AB),c>=k->57<k->57<c:=λc b k a f=>by omega
 repeat' split
 all_goals first
  |exact d
  |(rename_i a;simp only[A0,A6]at a;omega)
  |(rename_i a;have a:=BL a;omega)
  |(rename_i a;omega)
theorem x6(s:Cg):∀(f a:AB),s.size-a<=f->AG (sN notDig AD s f a>=0)= !((s.data.toList.drop a).all Ji)
 |0,a,h=>by
  have:s.data.toList.drop a=[]:=GY (by show s.data.toList.length<=a;have:s.data.toList.length=s.size:=AL;omega);rw[this];simp[sN]
 |f+1,a,h=>by
  unfold sN;by_cases c:a<s.size
  ·rw[Ae c];have d:a<s.data.toList.length:=c;have hd:s.data.toList.drop a=s.get! a::s.data.toList.drop (a+1):=by
    rw[List.drop_eq_getElem_cons d];congr 1;show _=s.data[a]!;rw[getElem!_pos s.data a c];rfl
   rw[hd];simp only[L7];by_cases g:(s.get! a).toNat<128
   ·rw[YJ g];by_cases b:48<=(s.get! a).toNat/\(s.get! a).toNat<=57
    ·rw[AY (by simp only[notDig,ED,A6];omega),H7.2 b,Bool.true_and];exact x6 s f (a+1) (by omega)
    ·have:Ji (s.get! a)=false:=by cases e:Ji (s.get! a);rfl;exact Aq (H7.1 e) b
     rw[Ae (by simp only[notDig,ED,A6];omega),this];simp
   ·have:=ae (s:=s) (i:=a) (by omega);have hd:Ji (s.get! a)=false:=by cases e:Ji (s.get! a);rfl;have:=H7.1 e;omega
    rw[Ae (by simp only[notDig,ED,A6];omega),hd];simp
  ·rw[AY c];have:s.data.toList.drop a=[]:=GY (by have:s.data.toList.length=s.size:=AL;omega);rw[this];rfl
theorem vX(s:L8):AG (p5 s>=0)= !E3 s:=by
 have:=x6 (bs s) (bs s).size 0 (by omega);simpa[p5,AAB,E3,bs]using this
abbrev BF:Ty:=.pair (.int .i64) (.pair .str (.pair (.int .i64) (.pair .str (.pair (.int .i64) (.pair .str (.pair .str (.pair .str (.pair (.int .i64) (.pair .bool .unit)))))))))
def vY(ts rs:AE Ty):PSpec:=⟨ts,rs,λ_=>AK,λ_=>qz rs⟩
def UH:PSpec:=⟨[.byte],[.bool],λ_=>AD,λx=>(El x.1,())⟩
def Bx:PSpec:=⟨[.str],[.bool],λx=>Aw x.1,λx=>(isKey x.1,())⟩
def hY(f:AB):PSpec:=⟨[.str,.fn f],[.int .i64],λ_=>AD,λx=>(p5 x.1,())⟩
def NY:PSpec:=⟨[.str,.int .i64,.int .i64],[.int .i64,.err],λx=>Aw x.1&&(AG (x.2.1=10)&&AG (x.2.2.1=64)),λx=>((Es x.1).1,(Es x.1).2,())⟩
def VB:PSpec:=⟨[.str,.int .i64,.int .i64,.int .i64],[.int .i64,.bool],λx=>Aw x.1,λx=>((Ho x.1 x.2.1 x.2.2.1 x.2.2.2.1).1,(Ho x.1 x.2.1 x.2.2.1 x.2.2.2.1).2,())⟩
def Bz:PSpec:=⟨[.str,.str],[.bool],λ_=>AD,λx=>(Bt x.1 x.2.1,())⟩
def H2:PSpec:=⟨[.str,.str],[.str,.bool],λ_=>AD,λx=>((CK x.1 x.2.1).1,(CK x.1 x.2.1).2,())⟩
def hZ:PSpec:=⟨[.int .u64],[.str],λx=>AG (0<=x.1)&&AG (x.1<18446744073709551616),λx=>(Oq x.1,())⟩
def HN:PSpec:=⟨[.int .i64],[.str],λx=>AG (-9223372036854775808<=x.1)&&AG (x.1<=9223372036854775807),λx=>(D9 x.1,())⟩
end Nice
namespace Go.Proofs.YtkgejlchafionaaGreatDoor
open Tryz
open Nice
abbrev p6:AE (AB×AE (AB×Sh)):=[]
def AHx(x:AM [.byte]):AP (AM [.bool]):=fO prog (Aj []) (AV p6) f207 [.byte] [.bool] x
theorem ADn(N:AB)(a:Bo):Cy prog (Aj []) (AV p6) f207 [.byte] [.bool] N (a,())=
  (bif AG ((↑a.toNat:AA)>=(65:AA))then
 (bif AG ((↑a.toNat:AA)<=(90:AA))then
 (AC (AD,()))
 else
 (AC (AK,())))
  else
 (AC (AK,()))):=by kernel_rfl
theorem ADo(x:AM [.byte]):AHx x=Cy prog (Aj []) (AV p6) f207 [.byte] [.bool] AU x:=AL
abbrev Ot:AE (AB×AE (AB×Sh)):=[(3,[(2,(.one .sym)),(3,(.one (.vec .byte 5))),(8,(.one (.same 0))),(9,(.one .sym)),(10,(.one .sym))])]
def Jk(n:AB)(t2:L8)(t3:AE (Ty.Den .byte))(t9 t10:AA):AP (AM [.str]):=rH prog (Aj [(207,ky)]) (AV Ot) f235 [.str] n 0 [(2,sy (.string (bs t2))),(3,dt 10),(8,dt 10),(9,sy (.int .i64 t9)),(10,sy (.int .i64 t10))] [.vec .byte t3 5]
def h6(x:AM [.str]):AP (AM [.str]):=fO prog (Aj [(207,ky)]) (AV Ot) f235 [.str] [.str] x
theorem kz(N:AB)(a:L8):Cy prog (Aj [(207,ky)]) (AV Ot) f235 [.str] [.str] N (a,())=
 (Jk N ([]) (a) ((↑a.length:AA)) ((0:AA))):=by kernel_rfl
theorem k0(x:AM [.str]):h6 x=Cy prog (Aj [(207,ky)]) (AV Ot) f235 [.str] [.str] AU x:=AL
theorem WR(n:AB)(t2:L8)(t3:AE (Ty.Den .byte))(t9 t10:AA){Qa}[Qa':QA (↑(UInt8.toNat (t3.getD t10.toNat Ty.byte.dflt)):AA) Qa]{Qb}[Qb':QA (FJ.wrap (FJ.wrap (Qa+97)-65)) Qb]:Jk (n+1) t2 t3 t9 t10= (bif AG (t10<t9)then(gd [AG (t10.toNat<t3.length),AG (0<=t10),AG (t10<t3.length)] (bif Mr (Cj Qa.toNat)then(gd [AG (A4 .i64 (t10+1)),AG (t10.toNat<t3.length),AG (A4 .u8 Qb),AG (0<=t10),AG (t10<t3.length),AG (A4 .u8 Qa)] (Jk n t2 (t3.set t10.toNat (Cj Qb.toNat)) t9 (t10+1)))else(gd [AG (A4 .i64 (t10+1)),AG (A4 .u8 Qa)] (Jk n t2 t3 t9 (t10+1)))))else(AC (t3,()))):=by obtain⟨rfl⟩:=Qb';obtain⟨rfl⟩:=Qa';kernel_rfl
abbrev YK:AE (AB×AE (AB×Sh)):=[(2,[(1,(.one .sym)),(4,(.one .sym)),(5,(.one .sym)),(9,(.one (.dat (.pair .str (.pair .str .unit))))),(10,(.one .sym)),(11,(.one .sym))])]
def SH(n:AB)(t1 t4:L8)(t5:AH)(t9:AE (Ty.Den (.pair .str (.pair .str .unit))))(t10 t11:AA):AP (AM [.str,.bool]):=rH prog (Aj [(235,QC)]) (AV YK) f191 [.str,.bool] n 0 [(1,sy (.string (bs t1))),(4,sy (.string (bs t4))),(5,.bool t5),(9,dt 10),(10,sy (.int .i64 t10)),(11,sy (.int .i64 t11))] [.dat (.pair .str (.pair .str .unit)) t9]
def x7(x:AM [CS,.str]):AP (AM [.str,.bool]):=fO prog (Aj [(235,QC)]) (AV YK) f191 [CS,.str] [.str,.bool] x
theorem vZ(N:AB)(a:Ty.Den CS)(b:L8):Cy prog (Aj [(235,QC)]) (AV YK) f191 [CS,.str] [.str,.bool] N (a,b,())=
 (SH N (b) ([]) (AK) (a.snd.snd.snd.fst) ((↑(List.length a.snd.snd.snd.fst):AA)) ((0:AA))):=by kernel_rfl
theorem va(x:AM [CS,.str]):x7 x=Cy prog (Aj [(235,QC)]) (AV YK) f191 [CS,.str] [.str,.bool] AU x:=AL
theorem h7(n:AB)(t1 t4:L8)(t5:AH)(t9:AE (Ty.Den (.pair .str (.pair .str .unit))))(t10 t11:AA){Qa}[Qa':QA (t9.getD t11.toNat (Gp).dflt) Qa]:SH (n+1) t1 t4 t5 t9 t10 t11= (bif AG (t11<t10)then(gd [AG (t11.toNat<t9.length),AG (0<=t11),AG (t11<t9.length)] (bif Ek Qa.fst==Ek t1 then(gd [Hn t1,Hn Qa.fst] (AC (Qa.snd.fst,AD,())))else(gd [AG (A4 .i64 (t11+1)),Hn t1,Hn Qa.fst] (SH n t1 t4 t5 t9 t10 (t11+1)))))else(AC ([],AK,()))):=by obtain⟨rfl⟩:=Qa';kernel_rfl
abbrev p7:AE (AB×AE (AB×Sh)):=[]
def AHy(x:AM [.str,.int .i64]):AP (AM [.str]):=fO prog (Aj []) (AV p7) f22 [.str,.int .i64] [.str] x
theorem ADp(N:AB)(a:L8)(b:AA):Cy prog (Aj []) (AV p7) f22 [.str,.int .i64] [.str] N (a,b,())=
 (gd [AG ((0:AA)<=min (↑a.length:AA) b),AG (min (↑a.length:AA) b<=(↑a.length:AA))] (AC (Ko (min (↑a.length:AA) b).toNat a,()))):=by kernel_rfl
theorem ADq(x:AM [.str,.int .i64]):AHy x=Cy prog (Aj []) (AV p7) f22 [.str,.int .i64] [.str] AU x:=AL
open Nice
theorem AHz(c:Bo):AHx (c,())=AC (Mr c,()):=by
 rw[ADo,ADn];by_cases b:65<=c.toNat
 ·by_cases d:c.toNat<=90
  ·rw[Jj.2 ⟨b,d⟩];simp(disch:=omega) only[Bn]
  ·rw[show Mr c=AK by cases a:Mr c;rfl;exact Aq (Jj.1 a).2 d];simp(disch:=omega) only[Bn,Bm]
 ·rw[show Mr c=AK by cases a:Mr c;rfl;exact Aq (Jj.1 a).1 b];simp(disch:=omega) only[Bn,Bm]
theorem af(t2:L8)(len:AB):∀(a done:L8) (n:AB),len=done.length+a.length->len<=140737488355328->a.length<n->Jk n t2 (done++a) (len:AA) (done.length:AA)=AC (done++a.map lo,())
 |[],done,n,b,g,i=>by
  obtain⟨m,rfl⟩:∃m,n=m+1:=⟨n-1,by omega⟩
  simp only[E8]at b;rw[WR,Bm (by omega)];simp
 |c::a,done,n,b,g,i=>by
  obtain⟨m,rfl⟩:∃m,n=m+1:=⟨n-1,by omega⟩
  simp only[B7]at b i;have o:=c.toNat_lt;have d:=λx=>af t2 len a (done++[x]) m (by simp;omega) g (by omega)
  simp only[C9,Gq,BA,EL,Dz]at d;rw[WR];simp only[BA,B7,Hu,Hc,vW,UInt8.ofNat_toNat];cases f:Mr c
  ·have j:¬(65<=c.toNat/\c.toNat<=90):=λh=>by rw[Jj.2 h]at f;cases f
   simp(disch:=omega) only[Bn,An,Cm,AZ,NX,BZ];have:=d c;simpa[ADl j]using this
  ·obtain⟨k,l⟩:=Jj.1 f;simp(disch:=omega) only[Bn,An,Cm,AZ,NX,Ag,SG];have e:Cj ((((c.toNat:AA)+97)%256-65)%256).toNat=lo c:=by rw[AHw k l];congr 1;omega
   rw[e];exact d _
theorem p8(s:L8)(h:Hn s=AD):h6 (s,())=AC (Ek s,()):=by
 have h:s.length<=140737488355328:=BL h;rw[k0,kz];exact af [] s.length s [] AU (by simp) h (by unfold AU;omega)
theorem p9(t1 t4:L8)(t5:AH)(j:Hn t1=AD)(len:AB):∀(a done:AE (L8×L8×ET)) (n:AB),len=done.length+a.length->len<=140737488355328->a.all (λh=>Hn h.1)=AD->a.length<n->
  SH n t1 t4 t5 (done++a) (len:AA) (done.length:AA)=AC ((Ba a t1).1,(Ba a t1).2,())
 |[],done,n,d,e,b,f=>by
  obtain⟨m,rfl⟩:∃m,n=m+1:=⟨n-1,by omega⟩
  simp only[E8]at d;rw[h7,Bm (by omega)];rfl
 |c::a,done,n,d,e,b,f=>by
  obtain⟨m,rfl⟩:∃m,n=m+1:=⟨n-1,by omega⟩
  simp only[B7]at d f;simp only[L7,A0]at b;have g:=p9 t1 t4 t5 j len a (done++[c]) m (by simp;omega) e b.2 (by omega);simp only[C9,Gq,BA,EL,Dz]at g;rw[h7];simp only[BA,B7,Hu,Hc]
  simp(disch:=omega) only[Bn,An,Cm];cases i:Ek c.1==Ek t1
  ·simp(disch:=first|omega|assumption|exact b.1) only[An,BG,Cm,AZ,BZ];simp only[Ba,i,BZ];exact g
  ·simp(disch:=first|omega|assumption|exact b.1) only[BG,Cm,Ag];simp only[Ba,i,Ag]
theorem ADr(r:Ty.Den CS)(s:L8)(h:HI r.2.2.2.1 s=AD):x7 (r,s,())=AC ((Ba r.2.2.2.1 s).1,(Ba r.2.2.2.1 s).2,()):=by
 unfold HI at h;simp only[A0,A6]at h;rw[va,vZ];exact p9 s [] AK h.2.1 _ r.2.2.2.1 [] AU (by simp) h.1 h.2.2 (by unfold AU;omega)
theorem AH0(s:L8)(n:AA)(h:0<=n):AHy (s,n,())=AC (cut s n,()):=by
 rw[ADq,ADp];rw[An (by omega),An (Int.min_le_left _ _),Cm];have:Ko (min (s.length:AA) n).toNat s=cut s n:=by
  unfold cut;by_cases a:n<=s.length
  ·rw[Int.min_eq_right a]
  ·rw[Int.min_eq_left (by omega),GB (by simp),GB (by omega)]
 rw[this]
theorem Vu(s:L8)(c:Bo):On (s++[c])=On s*10+(c.toNat-48):=by simp[On]
theorem Qt{s:L8}{c:Bo}(a:E3 s=AD)(b:Ji c=AD):E3 (s++[c])=true:=by simp only[E3,List.all_append,L7,List.all_nil,Bool.and_true,A0]at a⊢;exact⟨a,b⟩
end Go.Proofs.YtkgejlchafionaaGreatDoor
namespace Nice
def YL(a:AB)(s:L8):AB:=s.foldl (λn c=>n*10+(c.toNat-48)) a
theorem h8:∀(s:L8) (a:AB),a<=YL a s
 |[],a=>Ak _
 |c::r,a=>by
  have:=h8 r (a*10+(c.toNat-48));show a<=YL (a*10+(c.toNat-48)) r;omega
theorem Q5:∀(s:L8) (a:AB),E3 s=AD->a<=18446744073709551615->
  (YL a s<=18446744073709551615->ANx 18446744073709551615 a s=.ok (YL a s))/\(18446744073709551615<YL a s->ANx 18446744073709551615 a s=.range)
 |[],a,_,e=>⟨λ_=>rfl,λh=>by simp only[YL,List.foldl_nil]at h;omega⟩
 |c::r,a,h,e=>by
  simp only[E3,L7,A0]at h;have hd:=H7.1 h.1;have f:YL a (c::r)=YL (a*10+(c.toNat-48)) r:=AL;have g:=h8 r (a*10+(c.toNat-48));rw[f];simp only[ANx,Ae hd];by_cases b:1844674407370955162<=a
  ·rw[Ae b];exact⟨λh=>by omega,λ_=>rfl⟩
  ·rw[AY b];by_cases d:18446744073709551615<a*10+(c.toNat-48)
   ·rw[Ae d];exact⟨λh=>by omega,λ_=>rfl⟩
   ·rw[AY d];exact Q5 r _ h.2 (by omega)
theorem qA{s:L8}(h:E3 s=AD)(i:s≠[]):(On s<9223372036854775808->Es s=((On s:AA),AD))/\(9223372036854775808<=On s->(Es s).2=AK):=by
 cases s with
 |nil=>exact Aq rfl i
 |cons c r=>
  have hd:48<=c.toNat/\c.toNat<=57:=by
   simp only[E3,L7,A0]at h;exact H7.1 h.1
  obtain⟨d,f⟩:=Q5 (c::r) 0 h (by omega);have j:YL 0 (c::r)=On (c::r):=AL;rw[j]at d f;have k:¬(c.toNat=43\/c.toNat=45):=by omega
  have g:AAD 64 (c::r)=ANx 18446744073709551615 0 (c::r):=by
   unfold AAD;rw[AY (by simp)]
  have l:¬c.toNat=45:=by omega
  by_cases m:On (c::r)<=18446744073709551615
  ·have e:PF 64 (c::r)=if 9223372036854775808<=On (c::r)then .range else .ok (On (c::r):AA):=by
    rw[AAC 64 c r (by omega) (by omega),g,d m];rfl
   constructor
   ·intro a;unfold Es;rw[e,AY (by omega)]
   ·intro b;unfold Es;rw[e,Ae b]
  ·have e:PF 64 (c::r)=.range:=by
    rw[AAC 64 c r (by omega) (by omega),g,f (by omega)];rfl
   constructor
   ·intro a;omega
   ·intro _;unfold Es;rw[e]
def CZ(x:AB):AH:=match BV.decode x with
 | .nan _ _=>AK
 |_=>AD
def Hp(x:AB):AB:=BV.encode ((BV.decode x).integral .zero)
def E4(x a b:AB):AH:=Pp .geq .f64 x a&&(Pp .leq .f64 x b&&Pp .eql .f64 x (Hp x))
theorem Ly{n k:AB}(b:1<=n)(a:n<2^(k+1)):n.log2<=k:=by
 have:=(Uq (by omega:n≠0)).2 a;omega
theorem qB(a:Ieee.Toward)(n:AB):a.cut AK n 0=n:=by
 unfold bl;have e:(1<<<min 0 (n.log2+2):AB)=1:=by rw[Nat.zero_min];rfl
 simp only[e,Nat.div_one,Nat.mod_one,Nat.mul_zero];cases a<;>simp
theorem NZ(f:Ieee.Format)(x:AB):f.word AK x=x:=AL
theorem Q6{n:AB}(d:1<=n)(e:n<2^53):BV.nearest (n:AA)=(n.log2+1022)*2^52+n*2^(52-n.log2):=by
 have m:=Ly d e;have f:=AAL (by omega:n≠0);have c:=(Uq (by omega:n≠0)).1 (bt n.log2);have g:AG ((n:AA)<0)=false:=by rw[Ut];omega
 show Uo Fx (AG ((n:AA)<0)) (n:AA).natAbs 0=_;rw[g,Up];unfold Uo;rw[AY (by omega)];have a:Fx.leastPlace= -1074:=by decide
 have b:max ((0:AA)+n.log2-(Fx.fractionBits:AB)) Fx.leastPlace=(n.log2:AA)-52:=by
  rw[a];show max ((0:AA)+n.log2-52) (-1074)=_;omega
 simp only[b];rw[a];have h:((n.log2:AA)-52-0).toNat=0:=by omega
 have i:((0:AA)-((n.log2:AA)-52)).toNat=52-n.log2:=by omega
 have j:((n.log2:AA)-52- -1074).toNat=n.log2+1022:=by omega
 rw[h,i,j,qB,MI];have k:Fx.binade=2^52:=AL;have l:Fx.infRung=2047*2^52:=by decide
 rw[k,l];have o:n*2^(52-n.log2)<2^53:=by
  calc n*2^(52-n.log2)<2^(n.log2+1)*2^(52-n.log2):=Ur c (I8 _)
   _=2^53:=by rw[<-Kw];congr 1;omega
 rw[NZ];apply MH;omega
theorem GU{n:AB}(d:1<=n)(e:n<2^53):BV.decode (BV.nearest (n:AA))=.number AK (n*2^(52-n.log2)) ((n.log2:AA)-52):=by
 have q:=Ly d e;have a:=AAL (by omega:n≠0);have b:=(Uq (by omega:n≠0)).1 (bt n.log2);rw[Q6 d e];have f:n*2^(52-n.log2)<2^53:=by
  calc n*2^(52-n.log2)<2^(n.log2+1)*2^(52-n.log2):=Ur b (I8 _)
   _=2^53:=by rw[<-Kw];congr 1;omega
 have g:2^52<=n*2^(52-n.log2):=by
  calc 2^52=2^n.log2*2^(52-n.log2):=by rw[<-Kw];congr 1;omega
   _<=n*2^(52-n.log2):=Nat.mul_le_mul_right _ a
 generalize n*2^(52-n.log2)=m at f g⊢;have h:Fx.signWeight=2^63:=AL;have i:Fx.binade=2^52:=AL;have j:Fx.infRung=2047*2^52:=by decide
 have c:Fx.leastPlace= -1074:=by decide
 show ia Fx ((n.log2+1022)*2^52+m)=_;unfold ia;simp only[h,i,j,c];have q1:((n.log2+1022)*2^52+m)/2^63%2=0:=by omega
 have k:((n.log2+1022)*2^52+m)%2^63=(n.log2+1022)*2^52+m:=by omega
 rw[q1,k,AY (by omega),Ae (by omega)];have l:2^52+((n.log2+1022)*2^52+m)%2^52=m:=by omega
 have o:((n.log2+1022)*2^52+m)/2^52-1=n.log2+1022:=by omega
 rw[l,o];have p:(-1074:AA)+((n.log2+1022:AB):AA)=(n.log2:AA)-52:=by omega
 rw[p];rfl
theorem VD{n:AB}(a:1<=n)(b:n<2^53):Hp (BV.nearest (n:AA))=BV.nearest (n:AA):=by
 have g:=Ly a b;unfold Hp;rw[GU a b];unfold r5 bl;have c:((n.log2:AA)-52).toNat=0:=by omega
 have d:(-((n.log2:AA)-52)).toNat=52-n.log2:=by omega
 simp only[c,d,Nat.shiftLeft_zero,Bool.toNat_false,FK];have e:(1<<<min (52-n.log2) ((n*2^(52-n.log2)).log2+2):AB)=2^(52-n.log2):=by
  rw[MI,Nat.one_mul,MH];have:2^(52-n.log2)<=n*2^(52-n.log2):=Nat.le_mul_of_pos_left _ a;have:=(Nat.le_log2 (Nat.ne_of_gt (Nat.lt_of_lt_of_le (I8 _) this))).2 this;omega
 rw[e,Nat.mul_div_cancel _ (I8 _)];have f:AG ((n:AA)<0)=false:=by rw[Ut];omega
 show _=Uo Fx (AG ((n:AA)<0)) (n:AA).natAbs 0;rw[f,Up];rfl
theorem eR(s:AH)(m:AB)(i:AA):ANP (.number s m i) (.number s m i)=AC .eq:=by
 unfold ANP;simp
theorem h9{n:AB}(h:n<65536):CZ (BV.nearest (n:AA))=AD/\E4 (BV.nearest (n:AA)) 0 4679237813814689792=AG (n<65521):=by
 rcases Nat.eq_zero_or_pos n with rfl|b
 ·decide
 have e:n<2^53:=by omega
 have hd:=GU b e;have p:n.log2<=15:=Ly b (by omega);refine⟨by unfold CZ;rw[hd],?_⟩;have f:BV.decode 0=.number AK 0 (-1074):=by decide
 have g:BV.decode 4679237813814689792=.number AK (65520*2^37) (-37):=by decide
 have i:BV.format.order (BV.nearest (n:AA)) 0=AC .gt:=by
  show ANP (BV.decode (BV.nearest (n:AA))) (BV.decode 0)=_;rw[hd,f];unfold ANP RO;have c:min ((n.log2:AA)-52) (-1074)= -1074:=by omega
  simp only[c,CI,BR,MI,Nat.zero_mul];congr 1;rw[RP];have:0<n*2^(52-n.log2)*2^((n.log2:AA)-52- -1074).toNat:=bu (bu b (I8 _)) (I8 _);omega
 have j:BV.format.order (BV.nearest (n:AA)) 4679237813814689792=AC (compare n 65520):=by
  show ANP (BV.decode (BV.nearest (n:AA))) (BV.decode 4679237813814689792)=_;rw[hd,g];unfold ANP RO;have c:min ((n.log2:AA)-52) (-37)=(n.log2:AA)-52:=by omega
  have k:((n.log2:AA)-52-((n.log2:AA)-52)).toNat=0:=by omega
  have l:((-37:AA)-((n.log2:AA)-52)).toNat=15-n.log2:=by omega
  simp only[c,k,l,CI,BR,MI,Nat.pow_zero,Nat.mul_one];have m:65520*2^37*2^(15-n.log2)=65520*2^(52-n.log2):=by
   rw[Nat.mul_assoc,<-Kw];congr 2;omega
  rw[m];congr 1;have d:=I8 (52-n.log2);generalize 2^(52-n.log2)=q at d;rcases L9 n 65520 with a|heq|H3
  ·rw[AAK.2 a,Int.compare_eq_lt];exact AAF.2 (Ur a d)
  ·rw[AAI.2 heq,Int.compare_eq_eq,heq]
  ·rw[AAJ.2 H3,RP];exact AAF.2 (Ur H3 d)
 have o:BV.format.order (BV.nearest (n:AA)) (BV.nearest (n:AA))=AC .eq:=by
  show ANP (BV.decode (BV.nearest (n:AA))) (BV.decode (BV.nearest (n:AA)))=_;rw[hd,eR]
 unfold E4 Pp;simp only[VD b e,i,j,o];rcases L9 n 65520 with a|heq|H3
 ·rw[AAK.2 a,BK (by omega:n<65521)];rfl
 ·rw[AAI.2 heq,BK (by omega:n<65521)];rfl
 ·rw[AAJ.2 H3,BP (by omega:¬n<65521)];rfl
def UI(c:Bo):AH:=AG (48<=c.toNat/\c.toNat<=57\/97<=c.toNat/\c.toNat<=102)
def hx(c:Bo):AA:=bif AG (c.toNat<=57)then(c.toNat:AA)-48 else(c.toNat:AA)-87
def Na:L8->AB->AA->AA->AP (AA×AA)
 |[],_,a,b=>AC (a,b)
 |c::r,i,a,b=>bif UI c then(bif AG (i<4)then Na r (i+1) (a*16+hx c) b else Na r (i+1) a (b*16+hx c))else AF
def rdZ(s:L8):AP (AA×AA):=bif AG (s.length=8)then(match Na s 0 0 0 with
 |some z=>bif AG (z.1<65521)&&AG (z.2<65521)then AC z else AF
 |none=>AF)else AF
def F9(s:L8):(AB×AB)×AH:=match rdZ s with
 |some z=>((BV.nearest z.1,BV.nearest z.2),AD)
 |none=>((0,0),AK)
def Jl(s:L8):(AA×AA×ET)×AH:=match rdZ s with
 |some z=>((z.1,z.2,()),AD)
 |none=>((0,0,()),AK)
def QD(a b:AB):AH:=E4 a 0 4679237813814689792&&E4 b 0 4679237813814689792
abbrev ZT:Ty:=.pair (.int .i64) (.pair (.int .i64) .unit)
def ag:PSpec:=⟨[.f64],[.f64],λx=>CZ x.1,λx=>(Hp x.1,())⟩
def Nb:PSpec:=⟨[.f64,.f64,.f64],[.bool],λx=>CZ x.1,λx=>(E4 x.1 x.2.1 x.2.2.1,())⟩
def Jm:PSpec:=⟨[.cx],[.bool],λx=>CZ x.1.1&&CZ x.1.2,λx=>(QD x.1.1 x.1.2,())⟩
def Nc:PSpec:=⟨[.str],[.cx,.bool],λ_=>AD,λx=>((F9 x.1).1,(F9 x.1).2,())⟩
def eS:PSpec:=⟨[.str],[ZT,.bool],λ_=>AD,λx=>((Jl x.1).1,(Jl x.1).2,())⟩
def He(c:Bo):L8->L8
 |[]=>[]
 |b::r=>bif b==c then []else b::He c r
def FT(c:Bo)(s:L8):AH:=s.any (· ==c)
theorem ah(c:Bo):∀s,(He c s).length<=s.length
 |[]=>Ak _
 |b::r=>by
  unfold He;cases b==c
  ·simpa using ah c r
  ·simp
theorem iA(c:Bo):∀s,FT c s=AD->(He c s).length<s.length
 |[],h=>by cases h
 |b::r,h=>by
  unfold He;simp only[FT,AAG]at h;cases a:b==c
  ·rw[a,Bool.false_or]at h;simpa using iA c r h
  ·simp
theorem QE(c:Bo):∀s,s.take (He c s).length=He c s
 |[]=>rfl
 |b::r=>by
  unfold He;cases b==c
  ·simp[QE c r]
  ·rfl
theorem YM(c:Bo):∀s,Uw s [c]=bif FT c s then((He c s).length:AA)else -1
 |[]=>rfl
 |b::r=>by
  have d:=YM c r;rw[Uw];simp only[FT,AAG]at d⊢;unfold He;by_cases a:b=c
  ·subst a;simp[AAH]
  ·have e:(b==c)=false:=by simpa using a
   have f:([c]:L8).isPrefixOf (b::r)=false:=by simp[AAH,Ne.symm a]
   rw[e,f,d];cases r.any (· ==c)
   ·rfl
   ·simp only[Ag,Bool.or_true,BZ,B7];have:(((He c r).length:AA)== -1)=false:=by
     rw[CE];omega
    rw[this];simp
theorem AH2(c:Bo)(s:L8):I4 s [c]=bif FT c s then(He c s,s.drop ((He c s).length+1),AD)else(s,[],AK):=by
 unfold I4;rw[YM];cases FT c s
 ·rfl
 ·simp only[Ag];rw[Ae (Int.natCast_nonneg _),Hu,QE];rfl
theorem QF(c:Bo)(s:L8)(h:FT c s=AK):MA s [c]=[s]:=by
 have a:Uw s [c]= -1:=by rw[YM,h];rfl
 unfold MA;rw[Lib.count_miss a];rfl
theorem UJ(c:Bo)(s:L8)(h:FT c s=AD):MA s [c]=He c s::MA (s.drop ((He c s).length+1)) [c]:=by
 have a:Uw s [c]=((He c s).length:AB):=by rw[YM,h];rfl
 have b:AAA s [c]=1+AAA (s.drop ((He c s).length+1)) [c]:=by
  rw[Lib.count_hit (by simp) a];rfl
 unfold MA;rw[b,Nat.add_comm,Lib.splitK];rw[a];have:(((He c s).length:AA)== -1)=false:=by rw[CE];omega
 rw[this];simp only[CI,BR,Hu,FK,EL];rw[QE]
abbrev BH:Type:=AA×L8×AA×L8×AA×L8×L8×L8×AA×AH×ET
def KW:L8:=[112,114,101,102,105,120]
def KX:L8:=[97,102,116,101,114]
def LB:L8:=[109,97,120]
def KY:L8:=[118,101,114,115,105,111,110,115]
def eqS(s:L8):L8:=s++[61]
def Nd(v:L8):AH:=v==[]||isKey v
def UK(a:BH)(v:L8):BH:=(a.1,a.2.1,a.2.2.1,a.2.2.2.1,a.2.2.2.2.1,a.2.2.2.2.2.1,v,a.2.2.2.2.2.2.2)
def UL(a:BH)(v:L8):BH:=(a.1,a.2.1,a.2.2.1,a.2.2.2.1,a.2.2.2.2.1,a.2.2.2.2.2.1,a.2.2.2.2.2.2.1,v,a.2.2.2.2.2.2.2.2)
def JJ(a:BH)(n:AA):BH:=(a.1,a.2.1,a.2.2.1,a.2.2.2.1,a.2.2.2.2.1,a.2.2.2.2.2.1,a.2.2.2.2.2.2.1,a.2.2.2.2.2.2.2.1,n,a.2.2.2.2.2.2.2.2.2)
def GV(a:BH)(n:AA):BH:=(n,a.2)
def JK:L8:=[73,102,45,78,111,110,101,45,77,97,116,99,104]
def JL:L8:=[73,102,45,77,97,116,99,104]
def DP:L8:=[80,85,84]
def DG:L8:=[68,69,76,69,84,69]
abbrev Em:Type:=AE (L8×L8×ET)
abbrev Nf:Type:=L8×L8×L8×Em×L8×ET
def k5(x:L8):AE (L8)->AA->AA
 |[],_=> -1
 |y::r,k=>bif x==y then k else k5 x r (k+1)
def vb(l:AE (L8))(x:L8):AA:=k5 x l 0
def EZ(l:AE (L8))(x:L8):AH:=l.any λy=>x==y
def E5(q:L8):AE (L8):=MA q [38]
def IY(p:L8):L8×L8×AH:=I4 p [61]
def E6(s:L8):AH:=AG (s.length<4294967281)
def DY(l:Em):AH:=(HI l JK&&HI l JL)&&Aw (Ba l JL).1
def aj(s:L8):L8×AH:=((HJ (CK s [34]).1 [34]).1,(CK s [34]).2&&((HJ (CK s [34]).1 [34]).2&&(F9 (HJ (CK s [34]).1 [34]).1).2))
def C7(l:Em):AA×L8×AH:=
 bif (Ba l JK).2 then(bif (Ba l JL).2 then(0,[],AK)else(1,[],(Ba l JK).1==[42]))
 else bif (Ba l JL).2 then(2,(aj (Ba l JL).1).1,(aj (Ba l JL).1).2)else(0,[],AD)
def qC(a:BH)(b:L8)(c:AA)(t:L8):BH:=(2,a.2.1,a.2.2.1,b,c,t,a.2.2.2.2.2.2)
def Q7(a:BH)(k v:AA):BH:=(k,a.2.1,v,a.2.2.2)
def UM(q:L8):AA×AH:=((Ho (CK q KV).1 (CK q KV).1.length 1 1099511627776).1,(Ho (CK q KV).1 (CK q KV).1.length 1 1099511627776).2&&((CK q KV).2&& !((CK q KV).1.getD 0 0==48)))
def EA(a:BH)(m q:L8)(c:Em)(b:L8):BH×AH:=
 bif isKey a.2.1 then
  bif m==DP then(qC a b (C7 c).1 (C7 c).2.1,(C7 c).2.2&&q==[])
  else bif q==[]then(Q7 a (bif m==DG then 3 else 1) a.2.2.1,AD)
  else(Q7 a (bif m==DG then 3 else 1) (UM q).1,(UM q).2)
 else(a,AK)
def LC(n v:L8)(a:BH):BH×AH:=
 bif n==KW then(UK a v,Nd v)
 else bif n==KX then(UL a v,Nd v)
 else bif n==LB then(JJ a (Ho v 2 1 20).1,(Ho v 2 1 20).2)
 else bif n==KY then(GV a 5,v==[49])
 else(a,AK)
def Cc:AE (L8)->AE (L8)->BH->BH×AH
 |[],_,a=>(a,AD)
 |p::r,seen,a=>
  bif (IY p).2.2 then
   bif EZ seen (IY p).1 then(a,AK)
   else bif (LC (IY p).1 (IY p).2.1 a).2 then Cc r (seen++[(IY p).1]) (LC (IY p).1 (IY p).2.1 a).1
   else((LC (IY p).1 (IY p).2.1 a).1,AK)
  else(a,AK)
def DF(a:BH)(q:L8):BH×AH:=bif q==[]then(JJ (GV a 4) 20,AD)else Cc (E5 q) [] (JJ (GV a 4) 20)
def Ou:PSpec:=⟨[.str,.str],[.bool],λx=>Aw x.1,λx=>(KU x.1 x.2.1,())⟩
def Ov:PSpec:=⟨[.str,.str],[.str,.bool],λx=>Aw x.1,λx=>((HJ x.1 x.2.1).1,(HJ x.1 x.2.1).2,())⟩
def Ng:PSpec:=⟨[.str,.str],[.slice .str],λx=>E6 x.1&&x.2.1==[38],λx=>(E5 x.1,())⟩
def UN:PSpec:=⟨[.str,.str],[.str,.str,.bool],λx=>E6 x.1&&x.2.1==[61],λx=>((IY x.1).1,(IY x.1).2.1,(IY x.1).2.2,())⟩
def ak:PSpec:=⟨[.slice .str,.str],[.int .i64],λx=>AG (x.1.length<=1000),λx=>(vb x.1 x.2.1,())⟩
def WS:PSpec:=⟨[.slice .str,.str],[.bool],λx=>AG (x.1.length<=1000),λx=>(EZ x.1 x.2.1,())⟩
def UO:PSpec:=⟨[CS],[.int .i64,.str,.bool],λx=>DY x.1.2.2.2.1,λx=>((C7 x.1.2.2.2.1).1,(C7 x.1.2.2.2.1).2.1,(C7 x.1.2.2.2.1).2.2,())⟩
def Dl:PSpec:=⟨[BF,CS],[BF,.bool],λx=>DY x.2.1.2.2.2.1&&(Aw x.2.1.2.2.1&&Aw x.1.2.1),λx=>((EA x.1 x.2.1.1 x.2.1.2.2.1 x.2.1.2.2.2.1 x.2.1.2.2.2.2.1).1,(EA x.1 x.2.1.1 x.2.1.2.2.1 x.2.1.2.2.2.1 x.2.1.2.2.2.2.1).2,())⟩
def Dm:PSpec:=⟨[BF,.str],[BF,.bool],λx=>E6 x.2.1,λx=>((DF x.1 x.2.1).1,(DF x.1 x.2.1).2,())⟩
def ADs:L8:=[112,114,101,102,105,120,61]
def ADt:L8:=[97,102,116,101,114,61]
def ADu:L8:=[109,97,120,61]
def EB:L8:=[71,69,84]
def Bh:L8:=[72,69,65,68]
def oW:L8:=[47,111]
def KZ:L8:=[47,111,47]
end Nice
namespace Go.Proofs.YtkgejlchafionaaGreatDoor
open Tryz
open Nice
abbrev YN:AE (AB×AE (AB×Sh)):=[]
def qD(x:AM [.f64,.f64,.f64]):AP (AM [.bool]):=fO prog (Aj [(237,ag)]) (AV YN) f195 [.f64,.f64,.f64] [.bool] x
theorem qE(N a b c:AB):Cy prog (Aj [(237,ag)]) (AV YN) f195 [.f64,.f64,.f64] [.bool] N (a,b,c,())=
 (bif Pp BinOp.geq BV a b then
  (bif Pp BinOp.leq BV a c then
   (bif Pp BinOp.eql BV a (Hp a)then
    (gd [CZ a] (AC (AD,())))
   else
    (gd [CZ a] (AC (AK,()))))
  else
   (AC (AK,())))
 else
  (AC (AK,()))):=by kernel_rfl
theorem qF(x:AM [.f64,.f64,.f64]):qD x=Cy prog (Aj [(237,ag)]) (AV YN) f195 [.f64,.f64,.f64] [.bool] AU x:=AL
abbrev eT:AE (AB×AE (AB×Sh)):=[]
def x8(x:AM [.cx]):AP (AM [.bool]):=fO prog (Aj [(195,Nb)]) (AV eT) f149 [.cx] [.bool] x
theorem vd(N:AB)(a:AB×AB):Cy prog (Aj [(195,Nb)]) (AV eT) f149 [.cx] [.bool] N (a,())=
 (bif E4 a.fst 0 4679237813814689792 then
  (bif E4 a.snd 0 4679237813814689792 then
   (gd [CZ a.snd,CZ a.fst] (AC (AD,())))
  else
   (gd [CZ a.snd,CZ a.fst] (AC (AK,()))))
 else
  (gd [CZ a.fst] (AC (AK,())))):=by kernel_rfl
theorem vf(x:AM [.cx]):x8 x=Cy prog (Aj [(195,Nb)]) (AV eT) f149 [.cx] [.bool] AU x:=AL
abbrev SK:AE (AB×AE (AB×Sh)):=[(5,[(0,(.one .sym)),(2,(.one .any)),(3,(.one .sym)),(4,(.obj [.sym,.sym])),(12,(.one .sym)),(13,(.one .sym))])]
def Jn(n:AB)(t0:L8)(t3:AH)(t4_0 t4_1 t12 t13:AA):AP (AM [.cx,.bool]):=rH prog (Aj [(149,Jm)]) (AV SK) f101 [.cx,.bool] n 0 [(0,sy (.string (bs t0))),(2,Value.complex BV 0 0),(3,.bool t3),(4,.pointer (AC ⟨10,0,AF⟩)),(12,sy (.int .i64 t12)),(13,sy (.int .i64 t13))] [.row [sy (.int .i64 t4_0),sy (.int .i64 t4_1)] 208 AK]
def qG(x:AM [.str]):AP (AM [.cx,.bool]):=fO prog (Aj [(149,Jm)]) (AV SK) f101 [.str] [.cx,.bool] x
theorem qH(N:AB)(a:L8):Cy prog (Aj [(149,Jm)]) (AV SK) f101 [.str] [.cx,.bool] N (a,())=
 (bif (↑a.length:AA) !=(8:AA)then
  (AC ((0,0),AK,()))
 else
  (Jn N (a) (AK) ((0:AA)) ((0:AA)) ((↑a.length:AA)) ((0:AA)))):=by kernel_rfl
theorem qI(x:AM [.str]):qG x=Cy prog (Aj [(149,Jm)]) (AV SK) f101 [.str] [.cx,.bool] AU x:=AL
theorem ANW(n:AB)(t0:L8)(t3:AH)(t4_0 t4_1 t12 t13:AA){Qb}[Qb':QA (↑(t0.getD t13.toNat 0).toNat:AA) Qb]{Qc}[Qc':QA (t13.tdiv ((4:AA))) Qc]{Qd}[Qd':QA (Jn n t0 t3) Qd]{Qg}[Qg':QA (t4_0*(16:AA)+(Qb-87)) Qg]{Qh}[Qh':QA (t4_1*(16:AA)+(Qb-87)) Qh]{Qk}[Qk':QA (AC ((0,0),AK,())) Qk]{Ql}[Ql':QA (t4_0*(16:AA)) Ql]{Qm}[Qm':QA (t4_1*(16:AA)) Qm]{Qa}[Qa':QA (bif AG (Qb>=97)then(bif AG (Qb<=102)then(gd [AG (A4 .i64 (Qb-87))] (bif t13.tdiv ((4:AA))==0 then(bif t13.tdiv ((4:AA))==0 then(gd [AG (A4 .i64 (t13+1)),AG (A4 .i64 Qg),AG (A4 .i64 Ql),AG (A4 .i64 Qc),AG (A4 .i64 Qc)] (Qd Qg t4_1 t12 (t13+1)))else(gd [AG (A4 .i64 (t13+1)),AG (A4 .i64 Qg),AG (A4 .i64 Ql),AG (A4 .i64 Qc),AG (A4 .i64 Qc),t13.tdiv ((4:AA))==1] (Qd t4_0 Qg t12 (t13+1))))else(gd [t13.tdiv ((4:AA))==1] (bif t13.tdiv ((4:AA))==0 then(gd [AG (A4 .i64 (t13+1)),AG (A4 .i64 Qh),AG (A4 .i64 Qm),AG (A4 .i64 Qc),AG (A4 .i64 Qc)] (Qd Qh t4_1 t12 (t13+1)))else(gd [AG (A4 .i64 (t13+1)),AG (A4 .i64 Qh),AG (A4 .i64 Qm),AG (A4 .i64 Qc),AG (A4 .i64 Qc),t13.tdiv ((4:AA))==1] (Qd t4_0 Qh t12 (t13+1)))))))else Qk)else Qk) Qa]{Qe}[Qe':QA (t4_0*(16:AA)+(Qb-48)) Qe]{Qf}[Qf':QA (t4_1*(16:AA)+(Qb-48)) Qf]{Qi}[Qi':QA (BV.nearest t4_0) Qi]{Qj}[Qj':QA (BV.nearest t4_1) Qj]:Jn (n+1) t0 t3 t4_0 t4_1 t12 t13= (bif AG (t13<t12)then(gd [AG (A4 .i64 Qb),AG (0<=t13),AG (t13<t0.length)] (bif AG (Qb>=48)then(bif AG (Qb<=57)then(gd [AG (A4 .i64 (Qb-48))] (bif t13.tdiv ((4:AA))==0 then(bif t13.tdiv ((4:AA))==0 then(gd [AG (A4 .i64 (t13+1)),AG (A4 .i64 Qe),AG (A4 .i64 Ql),AG (A4 .i64 Qc),AG (A4 .i64 Qc)] (Qd Qe t4_1 t12 (t13+1)))else(gd [AG (A4 .i64 (t13+1)),AG (A4 .i64 Qe),AG (A4 .i64 Ql),AG (A4 .i64 Qc),AG (A4 .i64 Qc),t13.tdiv ((4:AA))==1] (Qd t4_0 Qe t12 (t13+1))))else(gd [t13.tdiv ((4:AA))==1] (bif t13.tdiv ((4:AA))==0 then(gd [AG (A4 .i64 (t13+1)),AG (A4 .i64 Qf),AG (A4 .i64 Qm),AG (A4 .i64 Qc),AG (A4 .i64 Qc)] (Qd Qf t4_1 t12 (t13+1)))else(gd [AG (A4 .i64 (t13+1)),AG (A4 .i64 Qf),AG (A4 .i64 Qm),AG (A4 .i64 Qc),AG (A4 .i64 Qc),t13.tdiv ((4:AA))==1] (Qd t4_0 Qf t12 (t13+1)))))))else Qa)else Qa))else(bif QD Qi Qj then(gd [CZ Qi&&CZ Qj] (AC ((BV.nearest t4_0,BV.nearest t4_1),AD,())))else(gd [CZ Qi&&CZ Qj] Qk))):=by obtain⟨rfl⟩:=Qj';obtain⟨rfl⟩:=Qi';obtain⟨rfl⟩:=Qf';obtain⟨rfl⟩:=Qe';obtain⟨rfl⟩:=Qa';obtain⟨rfl⟩:=Qm';obtain⟨rfl⟩:=Ql';obtain⟨rfl⟩:=Qk';obtain⟨rfl⟩:=Qh';obtain⟨rfl⟩:=Qg';obtain⟨rfl⟩:=Qd';obtain⟨rfl⟩:=Qc';obtain⟨rfl⟩:=Qb';kernel_rfl
abbrev SL:AE (AB×AE (AB×Sh)):=[(5,[(0,(.one .sym)),(2,(.obj [.sym,.sym])),(3,(.one .sym)),(4,(.obj [.sym,.sym])),(5,(.one .sym))])]
def Jo(n:AB)(t0:L8)(t2_0 t2_1:AA)(t3:AH)(t4_0 t4_1 t5:AA):AP (AM [ZT,.bool]):=rH prog (Aj []) (AV SL) f27 [ZT,.bool] n 0 [(0,sy (.string (bs t0))),(2,.pointer (AC ⟨10,0,AF⟩)),(3,.bool t3),(4,.pointer (AC ⟨11,0,AF⟩)),(5,sy (.int .i64 t5))] [.row [sy (.int .i64 t2_0),sy (.int .i64 t2_1)] 78 AK,.row [sy (.int .i64 t4_0),sy (.int .i64 t4_1)] 107 AK]
def qJ(x:AM [.str]):AP (AM [ZT,.bool]):=fO prog (Aj []) (AV SL) f27 [.str] [ZT,.bool] x
theorem qK(N:AB)(a:L8):Cy prog (Aj []) (AV SL) f27 [.str] [ZT,.bool] N (a,())=
 (bif (↑a.length:AA) !=(8:AA)then
  (AC (((0:AA),(0:AA),()),AK,()))
 else
  (Jo N (a) ((0:AA)) ((0:AA)) (AK) ((0:AA)) ((0:AA)) ((0:AA)))):=by kernel_rfl
theorem qL(x:AM [.str]):qJ x=Cy prog (Aj []) (AV SL) f27 [.str] [ZT,.bool] AU x:=AL
theorem ao(n:AB)(t0:L8)(t2_0 t2_1:AA)(t3:AH)(t4_0 t4_1 t5:AA){Qb}[Qb':QA (↑(t0.getD t5.toNat 0).toNat:AA) Qb]{Qc}[Qc':QA (t5.tdiv ((4:AA))) Qc]{Qd}[Qd':QA (Jo n t0 t2_0 t2_1 t3) Qd]{Qe}[Qe':QA (AC (((0:AA),(0:AA),()),AK,())) Qe]{Qh}[Qh':QA (t4_0*(16:AA)+(Qb-87)) Qh]{Qi}[Qi':QA (t4_1*(16:AA)+(Qb-87)) Qi]{Qj}[Qj':QA (t4_0*(16:AA)) Qj]{Qk}[Qk':QA (t4_1*(16:AA)) Qk]{Qa}[Qa':QA (bif AG (Qb>=97)then(bif AG (Qb<=102)then(gd [AG (A4 .i64 (Qb-87))] (bif t5.tdiv ((4:AA))==0 then(bif t5.tdiv ((4:AA))==0 then(gd [AG (A4 .i64 (t5+1)),AG (A4 .i64 Qh),AG (A4 .i64 Qj),AG (A4 .i64 Qc),AG (A4 .i64 Qc)] (Qd Qh t4_1 (t5+1)))else(gd [AG (A4 .i64 (t5+1)),AG (A4 .i64 Qh),AG (A4 .i64 Qj),AG (A4 .i64 Qc),AG (A4 .i64 Qc),t5.tdiv ((4:AA))==1] (Qd t4_0 Qh (t5+1))))else(gd [t5.tdiv ((4:AA))==1] (bif t5.tdiv ((4:AA))==0 then(gd [AG (A4 .i64 (t5+1)),AG (A4 .i64 Qi),AG (A4 .i64 Qk),AG (A4 .i64 Qc),AG (A4 .i64 Qc)] (Qd Qi t4_1 (t5+1)))else(gd [AG (A4 .i64 (t5+1)),AG (A4 .i64 Qi),AG (A4 .i64 Qk),AG (A4 .i64 Qc),AG (A4 .i64 Qc),t5.tdiv ((4:AA))==1] (Qd t4_0 Qi (t5+1)))))))else Qe)else Qe) Qa]{Qf}[Qf':QA (t4_0*(16:AA)+(Qb-48)) Qf]{Qg}[Qg':QA (t4_1*(16:AA)+(Qb-48)) Qg]:Jo (n+1) t0 t2_0 t2_1 t3 t4_0 t4_1 t5= (bif AG (t5<8)then(gd [AG (A4 .i64 Qb),AG (0<=t5),AG (t5<t0.length)] (bif AG (Qb>=48)then(bif AG (Qb<=57)then(gd [AG (A4 .i64 (Qb-48))] (bif t5.tdiv ((4:AA))==0 then(bif t5.tdiv ((4:AA))==0 then(gd [AG (A4 .i64 (t5+1)),AG (A4 .i64 Qf),AG (A4 .i64 Qj),AG (A4 .i64 Qc),AG (A4 .i64 Qc)] (Qd Qf t4_1 (t5+1)))else(gd [AG (A4 .i64 (t5+1)),AG (A4 .i64 Qf),AG (A4 .i64 Qj),AG (A4 .i64 Qc),AG (A4 .i64 Qc),t5.tdiv ((4:AA))==1] (Qd t4_0 Qf (t5+1))))else(gd [t5.tdiv ((4:AA))==1] (bif t5.tdiv ((4:AA))==0 then(gd [AG (A4 .i64 (t5+1)),AG (A4 .i64 Qg),AG (A4 .i64 Qk),AG (A4 .i64 Qc),AG (A4 .i64 Qc)] (Qd Qg t4_1 (t5+1)))else(gd [AG (A4 .i64 (t5+1)),AG (A4 .i64 Qg),AG (A4 .i64 Qk),AG (A4 .i64 Qc),AG (A4 .i64 Qc),t5.tdiv ((4:AA))==1] (Qd t4_0 Qg (t5+1)))))))else Qa)else Qa))else(bif AG (t4_0>=65521)then Qe else(bif AG (t4_1>=65521)then Qe else(AC ((t4_0,t4_1,()),AD,()))))):=by obtain⟨rfl⟩:=Qg';obtain⟨rfl⟩:=Qf';obtain⟨rfl⟩:=Qa';obtain⟨rfl⟩:=Qk';obtain⟨rfl⟩:=Qj';obtain⟨rfl⟩:=Qi';obtain⟨rfl⟩:=Qh';obtain⟨rfl⟩:=Qe';obtain⟨rfl⟩:=Qd';obtain⟨rfl⟩:=Qc';obtain⟨rfl⟩:=Qb';kernel_rfl
end Go.Proofs.YtkgejlchafionaaGreatDoor
namespace Nice
def ANX(i:AB)(a b:AA):Prop:=0<=a/\0<=b/\(i<4->a<16^i/\b=0)/\(4<=i->a<65536/\b<16^(i-4))
theorem qM:ANX 0 0 0:=⟨by omega,by omega,λ_=>⟨by decide,rfl⟩,λh=>Aq h (by decide)⟩
theorem x9(i:AB):(16:AA)^(i+1)=16*16^i:=by rw[Int.pow_succ,Int.mul_comm]
theorem aq{i:AB}(h:i<=3):(16:AA)^i<=4096:=by
 have:i=0\/i=1\/i=2\/i=3:=by omega
 rcases this with rfl|rfl|rfl|rfl<;>decide
theorem QG{i:AB}{a b v:AA}(h:ANX i a b)(d:i<4)(g:0<=v)(j:v<=15):ANX (i+1) (a*16+v) b/\a*16+v<=65535:=by
 obtain⟨q1,k,f,l⟩:=h;obtain⟨m,c⟩:=f d;have:=x9 i;have:=aq (show i<=3 by omega);refine⟨⟨by omega,by omega,λh=>⟨by omega,c⟩,λh=> ?_⟩,by omega⟩;have e:i=3:=by omega
 subst e;refine⟨by omega,?_⟩;rw[c];decide
theorem QH{i:AB}{a b v:AA}(h:ANX i a b)(c:4<=i)(d:i<8)(j:0<=v)(k:v<=15):ANX (i+1) a (b*16+v)/\b*16+v<=65535:=by
 obtain⟨q1,l,m,f⟩:=h;obtain⟨g,n⟩:=f c;have e:i+1-4=(i-4)+1:=by omega
 have:=x9 (i-4);have:=aq (show i-4<=3 by omega);exact⟨⟨q1,by omega,λh=>by omega,λ_=>⟨g,by rw[e];omega⟩⟩,by omega⟩
theorem qN{a b:AA}(h:ANX 8 a b):0<=a/\a<65536/\0<=b/\b<65536:=by
 obtain⟨q1,c,g,d⟩:=h;obtain⟨e,f⟩:=d (by decide);exact⟨q1,e,c,f⟩
theorem Hf{c:Bo}:UI c=AD↔(48<=c.toNat/\c.toNat<=57\/97<=c.toNat/\c.toNat<=102):=by
 unfold UI;rw[RJ]
theorem yA{a b:AA}(i:0<=a)(j:a<65536)(l:0<=b)(o:b<65536):(CZ (BV.nearest a)&&CZ (BV.nearest b))=AD/\QD (BV.nearest a) (BV.nearest b)=(AG (a<65521)&&AG (b<65521)):=by
 obtain⟨m,rfl⟩:∃m:AB,a=(m:AA):=⟨a.toNat,by omega⟩
 obtain⟨k,rfl⟩:∃k:AB,b=(k:AA):=⟨b.toNat,by omega⟩
 obtain⟨c,d⟩:=h9 (n:=m) (by omega);obtain⟨e,f⟩:=h9 (n:=k) (by omega);refine⟨by rw[c,e];rfl,?_⟩;have g:AG (m<65521)=AG ((m:AA)<65521):=by rw[bw];omega
 have h:AG (k<65521)=AG ((k:AA)<65521):=by rw[bw];omega
 unfold QD;rw[d,f,g,h]
end Nice
namespace Go.Proofs.YtkgejlchafionaaGreatDoor
open Tryz
open Nice
theorem qO(x a b:AB)(h:CZ x=AD):qD (x,a,b,())=AC (E4 x a b,()):=by
 rw[qF,qE];unfold E4;cases Pp .geq .f64 x a<;>cases Pp .leq .f64 x b<;>cases Pp .eql .f64 x (Hp x)<;>simp[gd,h]
theorem vg(z:AB×AB)(h:(CZ z.1&&CZ z.2)=AD):x8 (z,())=AC (QD z.1 z.2,()):=by
 rw[A0]at h;rw[vf,vd];unfold QD;cases E4 z.1 0 4679237813814689792<;>cases E4 z.2 0 4679237813814689792<;>simp[gd,h.1,h.2]
def Gi(z:AP (AA×AA)):AP (AA×AA):=match z with
 |some z=>bif AG (z.1<65521)&&AG (z.2<65521)then AC z else AF
 |none=>AF
theorem SM{i:AB}(h:i<4):((i:AA)).tdiv 4=0:=by
 rw[Ud (by omega)];omega
theorem SN{i:AB}(h:4<=i)(a:i<8):((i:AA)).tdiv 4=1:=by
 rw[Ud (by omega)];omega
theorem c00{α:Type}{a b:α}:(bif ((0:AA)==(0:AA))then a else b)=a:=by
 have h:((0:AA)==(0:AA))=true:=by decide
 rw[h,Ag]
theorem c10{α:Type}{a b:α}:(bif ((1:AA)==(0:AA))then a else b)=b:=by
 have h:((1:AA)==(0:AA))=false:=by decide
 rw[h,BZ]
theorem yB{α:Type}{l:AE AH}{r:AP α}:gd (((1:AA)==(1:AA))::l) r=gd l r:=by
 have h:((1:AA)==(1:AA))=true:=by decide
 exact BG h
theorem gZ{α:Type}{r:AP α}:gd [] r=r:=by cases r<;>rw[Cm]
theorem vi(s:L8)(t3:AH)(d:L8):∀(done:L8) (n:AB) (a b:AA),s=done++d->done.length+d.length=8->ANX done.length a b->d.length<n->
  Jn n s t3 a b 8 (done.length:AA)=match Gi (Na d done.length a b)with
   |some z=>AC ((BV.nearest z.1,BV.nearest z.2),AD,())
   |none=>AC ((0,0),AK,()):=by
 induction d with
 |nil=>
  intro done n a b k l e x;obtain⟨m,rfl⟩:∃m,n=m+1:=⟨n-1,by omega⟩
  simp only[E8,FK]at l;rw[l]at e;obtain⟨A,i2,i3,i4⟩:=qN e;obtain⟨y,B⟩:=yA A i2 i3 i4;rw[ANW,Bm (by omega),B];simp only[Na,Gi];cases H:AG (a<65521)&&AG (b<65521)
  ·simp only[BZ];rw[BG y,gZ]
  ·simp only[Ag];rw[BG y,gZ]
 |cons c d p=>
  intro done n a b k l e x;obtain⟨m,rfl⟩:∃m,n=m+1:=⟨n-1,by omega⟩
  simp only[B7]at l x;have I:=c.toNat_lt;have q:=λC D=>p (done++[c]) m C D (by rw[k];simp) (by simp;omega)
  simp only[BA,EL,Dz]at q;have E:s.getD done.length 0=c:=by rw[k,Hc]
  have F:s.length=8:=by rw[k];simp;omega
  rw[ANW];simp only[F,Hu,E];rw[Bn (by omega)];have key:∀v:AA,0<=v->v<=15->UI c=AD->hx c=v->(done.length<4->Jn m s t3 (a*16+v) b 8 ((done.length:AA)+1)=match Gi (Na (c::d) done.length a b)with
    |some z=>AC ((BV.nearest z.1,BV.nearest z.2),AD,())
    |none=>AC ((0,0),AK,()))/\(4<=done.length->Jn m s t3 a (b*16+v) 8 ((done.length:AA)+1)=match Gi (Na (c::d) done.length a b)with
    |some z=>AC ((BV.nearest z.1,BV.nearest z.2),AD,())
    |none=>AC ((0,0),AK,())):=by
   intro v i o g r;simp only[Na,g,Ag,r];constructor
   ·intro f;rw[Bn f];exact q _ _ (QG e f i o).1 (by omega)
   ·intro f;rw[Bm (by omega)];exact q _ _ (QH e f (by omega) i o).1 (by omega)
  have j:UI c=AK->(match Gi (Na (c::d) done.length a b)with
    |some z=>AC ((BV.nearest z.1,BV.nearest z.2),AD,())
    |none=>AC ((0,0),AK,()):AP (AM [.cx,.bool]))=AC ((0,0),AK,()):=by
   intro g;simp only[Na,g,BZ,Gi]
  by_cases o:48<=c.toNat
  ·by_cases t:c.toNat<=57
   ·obtain⟨u,w⟩:=key ((c.toNat:AA)-48) (by omega) (by omega) (Hf.2 (.inl ⟨o,t⟩)) (by unfold hx;rw[Bn t]);by_cases f:done.length<4
    ·have h:=(QG e f (v:=(c.toNat:AA)-48) (by omega) (by omega)).2;have i:=e.1;simp only[SM f,c00];simp(disch:=omega) only[Bn,An,gZ,AZ];exact u f
    ·have h:=(QH e (by omega) (by omega) (v:=(c.toNat:AA)-48) (by omega) (by omega)).2;have i:=e.2.1;simp only[SN (show 4<=done.length by omega) (by omega),c10,yB];simp(disch:=omega) only[Bn,An,gZ,AZ,yB];exact w (by omega)
   ·by_cases G:97<=c.toNat/\c.toNat<=102
    ·obtain⟨u,w⟩:=key ((c.toNat:AA)-87) (by omega) (by omega) (Hf.2 (.inr G)) (by unfold hx;rw[Bm t]);by_cases f:done.length<4
     ·have h:=(QG e f (v:=(c.toNat:AA)-87) (by omega) (by omega)).2;have i:=e.1;simp only[SM f,c00];simp(disch:=omega) only[Bn,Bm,An,gZ,AZ];exact u f
     ·have h:=(QH e (by omega) (by omega) (v:=(c.toNat:AA)-87) (by omega) (by omega)).2;have i:=e.2.1;simp only[SN (show 4<=done.length by omega) (by omega),c10,yB];simp(disch:=omega) only[Bn,Bm,An,gZ,AZ,yB];exact w (by omega)
    ·rw[j (by cases h:UI c;rfl;have:=Hf.1 h;omega)];by_cases J:97<=c.toNat
     ·simp(disch:=omega) only[Bn,Bm,An,gZ,AZ]
     ·simp(disch:=omega) only[Bn,Bm,An,gZ,AZ]
  ·rw[j (by cases h:UI c;rfl;have:=Hf.1 h;omega)];simp(disch:=omega) only[Bn,Bm,An,gZ,AZ]
theorem vj(s:L8):qG (s,())=AC ((F9 s).1,(F9 s).2,()):=by
 rw[qI,qH];unfold F9 rdZ;by_cases h:s.length=8
 ·have e:((s.length:AA) !=8)=false:=by rw[h];rfl
  have a:((s.length:AA))=8:=by omega
  rw[e,BZ,BK h,Ag,a];have:=vi s AK s [] AU 0 0 rfl (by simpa using h) qM (by unfold AU;omega);refine this.trans ?_;show _=AC ((match Gi (Na s 0 0 0)with
   |some z=>((BV.nearest z.1,BV.nearest z.2),AD)
   |none=>((0,0),AK)).1,(match Gi (Na s 0 0 0)with
   |some z=>((BV.nearest z.1,BV.nearest z.2),AD)
   |none=>((0,0),AK)).2,())
  show(match Gi (Na s 0 0 0)with
   |some z=>AC ((BV.nearest z.1,BV.nearest z.2),AD,())
   |none=>AC ((0,0),AK,()))=_
  cases Gi (Na s 0 0 0)<;>rfl
 ·have e:((s.length:AA) !=8)=true:=by simp;omega
  rw[e,Ag,BP h];rfl
theorem vk(s:L8)(q r:AA)(t3:AH)(d:L8):∀(done:L8) (n:AB) (a b:AA),s=done++d->done.length+d.length=8->ANX done.length a b->d.length<n->
  Jo n s q r t3 a b (done.length:AA)=match Gi (Na d done.length a b)with
   |some z=>AC ((z.1,z.2,()),AD,())
   |none=>AC ((0,0,()),AK,()):=by
 induction d with
 |nil=>
  intro done n a b o p e A;obtain⟨m,rfl⟩:∃m,n=m+1:=⟨n-1,by omega⟩
  simp only[E8,FK]at p;rw[p]at e;obtain⟨G,i2,i3,i4⟩:=qN e;rw[ao,Bm (by omega)];simp only[Na,Gi];by_cases g:a<65521
  ·by_cases j:b<65521
   ·rw[BK g,BK j,Bm (by omega),Bm (by omega)];rfl
   ·rw[BK g,BP j,Bm (by omega),Bn (by omega)];rfl
  ·rw[BP g,Bn (by omega)];rfl
 |cons c d t=>
  intro done n a b o p e A;obtain⟨m,rfl⟩:∃m,n=m+1:=⟨n-1,by omega⟩
  simp only[B7]at p A;have H:=c.toNat_lt;have u:=λB C=>t (done++[c]) m B C (by rw[o];simp) (by simp;omega)
  simp only[BA,EL,Dz]at u;have D:s.getD done.length 0=c:=by rw[o,Hc]
  have E:s.length=8:=by rw[o];simp;omega
  rw[ao];simp only[E,Hu,D];rw[Bn (by omega)];have key:∀v:AA,0<=v->v<=15->UI c=AD->hx c=v->(done.length<4->Jo m s q r t3 (a*16+v) b ((done.length:AA)+1)=match Gi (Na (c::d) done.length a b)with
    |some z=>AC ((z.1,z.2,()),AD,())
    |none=>AC ((0,0,()),AK,()))/\(4<=done.length->Jo m s q r t3 a (b*16+v) ((done.length:AA)+1)=match Gi (Na (c::d) done.length a b)with
    |some z=>AC ((z.1,z.2,()),AD,())
    |none=>AC ((0,0,()),AK,())):=by
   intro v k g h w;simp only[Na,h,Ag,w];constructor
   ·intro f;rw[Bn f];exact u _ _ (QG e f k g).1 (by omega)
   ·intro f;rw[Bm (by omega)];exact u _ _ (QH e f (by omega) k g).1 (by omega)
  have l:UI c=AK->(match Gi (Na (c::d) done.length a b)with
    |some z=>AC ((z.1,z.2,()),AD,())
    |none=>AC ((0,0,()),AK,()):AP (AM [ZT,.bool]))=AC ((0,0,()),AK,()):=by
   intro h;simp only[Na,h,BZ,Gi]
  by_cases g:48<=c.toNat
  ·by_cases j:c.toNat<=57
   ·obtain⟨x,y⟩:=key ((c.toNat:AA)-48) (by omega) (by omega) (Hf.2 (.inl ⟨g,j⟩)) (by unfold hx;rw[Bn j]);by_cases f:done.length<4
    ·have i:=(QG e f (v:=(c.toNat:AA)-48) (by omega) (by omega)).2;have k:=e.1;simp only[SM f,c00];simp(disch:=omega) only[Bn,An,gZ,AZ];exact x f
    ·have i:=(QH e (by omega) (by omega) (v:=(c.toNat:AA)-48) (by omega) (by omega)).2;have k:=e.2.1;simp only[SN (show 4<=done.length by omega) (by omega),c10,yB];simp(disch:=omega) only[Bn,An,gZ,AZ,yB];exact y (by omega)
   ·by_cases F:97<=c.toNat/\c.toNat<=102
    ·obtain⟨x,y⟩:=key ((c.toNat:AA)-87) (by omega) (by omega) (Hf.2 (.inr F)) (by unfold hx;rw[Bm j]);by_cases f:done.length<4
     ·have i:=(QG e f (v:=(c.toNat:AA)-87) (by omega) (by omega)).2;have k:=e.1;simp only[SM f,c00];simp(disch:=omega) only[Bn,Bm,An,gZ,AZ];exact x f
     ·have i:=(QH e (by omega) (by omega) (v:=(c.toNat:AA)-87) (by omega) (by omega)).2;have k:=e.2.1;simp only[SN (show 4<=done.length by omega) (by omega),c10,yB];simp(disch:=omega) only[Bn,Bm,An,gZ,AZ,yB];exact y (by omega)
    ·rw[l (by cases i:UI c;rfl;have:=Hf.1 i;omega)];by_cases I:97<=c.toNat
     ·simp(disch:=omega) only[Bn,Bm,An,gZ,AZ]
     ·simp(disch:=omega) only[Bn,Bm,An,gZ,AZ]
  ·rw[l (by cases i:UI c;rfl;have:=Hf.1 i;omega)];simp(disch:=omega) only[Bn,Bm,An,gZ,AZ]
theorem vl(s:L8):qJ (s,())=AC ((Jl s).1,(Jl s).2,()):=by
 rw[qL,qK];unfold Jl rdZ;by_cases h:s.length=8
 ·have e:((s.length:AA) !=8)=false:=by rw[h];rfl
  rw[e,BZ,BK h,Ag];have:=vk s 0 0 AK s [] AU 0 0 rfl (by simpa using h) qM (by unfold AU;omega);refine this.trans ?_;show _=AC ((match Gi (Na s 0 0 0)with
   |some z=>((z.1,z.2,()),AD)
   |none=>((0,0,()),AK)).1,(match Gi (Na s 0 0 0)with
   |some z=>((z.1,z.2,()),AD)
   |none=>((0,0,()),AK)).2,())
  show(match Gi (Na s 0 0 0)with
   |some z=>AC ((z.1,z.2,()),AD,())
   |none=>AC ((0,0,()),AK,()))=_
  cases Gi (Na s 0 0 0)<;>rfl
 ·have e:((s.length:AA) !=8)=true:=by simp;omega
  rw[e,Ag,BP h];rfl
end Go.Proofs.YtkgejlchafionaaGreatDoor
namespace Nice
abbrev EC:Type:=L8×L8×ET
abbrev Hg:Type:=AA×AE EC×L8×ET
abbrev Mj:Ty:=.pair (.int .i64) (.pair (.slice Gp) (.pair .str .unit))
