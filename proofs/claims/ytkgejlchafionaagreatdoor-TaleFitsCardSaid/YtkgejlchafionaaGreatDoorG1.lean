/-
  Part of the proof. No condition.
-/
import Derived.Shelf.Strconv.AtoiAll
import Derived.Shelf.GgClosure.StringsIndexFuncTop
import Derived.Shelf.Strconv.ParseIntPublic10
import Derived.Test.YtkgejlchafionaaGreatDoorSym
import Derived.Lib.ParseIntBCases
import Derived.Lib.SplitLaws
import Derived.Lib.TrimByte
import Derived.Lib.Case
set_option maxRecDepth 1000000
open Go Go.Eng
noncomputable section
namespace Nice
def lo (c:UInt8):UInt8:=if 65<=c/\c<=90 then c+32 else c
def Ce (s:L8):L8:=s.map lo
def EP (s:L8):Bool:=decide (s.length<=140737488355328)
def Ij (c:UInt8):Bool:=decide (65<=c/\c<=90)
def Ft (c:UInt8):Bool:=decide (48<=c/\c<=57)
def An:List (L8×L8×Unit)->L8->L8×Bool
 |[],_=>([],false)
 |h::r,n=>bif Ce h.1==Ce n then(h.2.1,true) else An r n
def D1 (l:List (L8×L8×Unit)) (n:L8):Bool:=decide (l.length<=140737488355328)&&(EP n&&l.all λh=>EP h.1)
def Cp (s:L8):Bool:=s.all Ft
def KD (s:L8):Nat:=s.foldl (λn c=>n*10+(c.toNat-48)) 0
def cut (s:L8) (n:Int):L8:=s.take n.toNat
theorem Au {α:Type} {p:Prop} [Decidable p] {a b:α} (h:p):(bif decide p then a else b)=a:=by simp[h]
theorem Av {α:Type} {p:Prop} [Decidable p] {a b:α} (h:¬p):(bif decide p then a else b)=b:=by simp[h]
theorem BM {α:Type} {r:Option α}:gd [] r=r:=rfl
theorem AP {α:Type} {p:Prop} [Decidable p] {l:List Bool} {r:Option α} (h:p):gd (decide p::l) r=gd l r:=by simp[gd,h]
theorem Ag {α:Type} {b:Bool} {l:List Bool} {r:Option α} (h:b=true):gd (b::l) r=gd l r:=by simp[gd,h]
theorem AH {n:Int}:Ad .i64 n↔ -9223372036854775808<=n/\n<=9223372036854775807:=Iff.rfl
theorem JD {n:Int}:Ad .u8 n↔0<=n/\n<=255:=Iff.rfl
theorem MW {n:Int}:IntKind.u8.wrap n=n%256:=rfl
theorem Dg {α:Type} (a b:List α) (x d:α):(a++x::b).getD a.length d=x:=by simp
theorem Yh {α:Type} (a b:List α) (x y:α):(a++x::b).set a.length y=a++y::b:=by simp
theorem mX {a c:UInt8}:a<=c↔a.toNat<=c.toNat:=UInt8.le_iff_toNat_le
theorem Fu {c:UInt8}:Ij c=true↔65<=c.toNat/\c.toNat<=90:=by
 unfold Ij;rw[decide_eq_true_iff,mX,mX];rfl
theorem Ec {c:UInt8}:Ft c=true↔48<=c.toNat/\c.toNat<=57:=by
 unfold Ft;rw[decide_eq_true_iff,mX,mX];rfl
theorem vv {c:UInt8} (a:65<=c.toNat) (b:c.toNat<=90):lo c=UInt8.ofNat (c.toNat+32):=by
 unfold lo;rw[if_pos ⟨mX.2 a,mX.2 b⟩];apply UInt8.toNat.inj;simp
theorem qf {c:UInt8} (h:¬(65<=c.toNat/\c.toNat<=90)):lo c=c:=by
 unfold lo;rw[if_neg];rintro⟨a,b⟩;exact h ⟨mX.1 a,mX.1 b⟩
abbrev DS:Ty:=.pair .str (.pair .str .unit)
abbrev BD:Ty:=.pair .str (.pair .str (.pair .str (.pair (.slice DS) (.pair .str .unit))))
def fY:PSpec:=⟨[],[.bool],λ_=>true,λ_=>(true,())⟩
def K8:PSpec:=⟨[.str],[.str],λx=>EP x.1,λx=>(Ce x.1,())⟩
def ABK:PSpec:=⟨[.byte],[.bool],λ_=>true,λx=>(Ij x.1,())⟩
def Oa:PSpec:=⟨[BD,.str],[.str,.bool],λx=>D1 x.1.2.2.2.1 x.2.1,λx=>((An x.1.2.2.2.1 x.2.1).1,(An x.1.2.2.2.1 x.2.1).2,())⟩
def PG:PSpec:=⟨[.str,.int .i64],[.str],λx=>decide (0<=x.2.1),λx=>(cut x.1 x.2.1,())⟩
def Cf (c:UInt8):Bool:=decide (97<=c.toNat/\c.toNat<=122\/48<=c.toNat/\c.toNat<=57\/c.toNat=46\/c.toNat=45\/c.toNat=95\/c.toNat=47)
def isKey (s:L8):Bool:=s.all Cf&&(decide (1<=s.length)&&decide (s.length<=40))
def AY (s:L8):Bool:=decide (s.length<=140737488355328)
def notDig (r:Nat):Bool:=decide (r<48)||decide (57<r)
def fZ (s:L8):Int:=Lib.idxFunc notDig true (bs s)
def Ci (s:L8):Int×Bool:=match Lib.parseIntB 64 s with
 | .ok v=>(v,true)
 |Lib.NumEnd.syntax=>(0,false)
 | .range=>(Lib.intSat 64 s,false)
def AA5 (s:L8) (a lo b:Int):Int×Bool:=((Ci s).1,Cp s&&((Ci s).2&&(decide ((s.length:Int)<=a)&&(decide ((Ci s).1>=lo)&&decide ((Ci s).1<=b)))))
def Ax (s p:L8):Bool:=decide (p.length<=s.length)&&s.take p.length==p
def GX (s p:L8):Bool:=decide (p.length<=s.length)&&s.drop (s.length-p.length)==p
def A8 (s p:L8):L8×Bool:=bif Ax s p then(s.drop p.length,true) else(s,false)
def D3 (s p:L8):L8×Bool:=bif GX s p then(s.take (s.length-p.length),true) else(s,false)
def KE:Nat->Nat->L8->L8
 |0,_,a=>a
 |f+1,n,a=>if n/10=0 then UInt8.ofNat (48+n%10)::a else KE f (n/10) (UInt8.ofNat (48+n%10)::a)
def KF (u:Int):L8:=KE 20 u.toNat []
def Bp (n:Int):L8:=if n<0 then 45::KF (-n) else KF n
def GY:L8:=[118,101,114,115,105,111,110,61]
def Dp:Int×L8×Int×L8×Int×L8×L8×L8×Int×Bool×Unit:=(0,[],0,[],0,[],[],[],0,false,())
theorem SC {s:ByteArray} {i:Nat} (h:(s.get! i).toNat<128):Utf8.decode s i=((s.get! i).toNat,1):=by
 unfold Utf8.decode;simp only[Nat.add_zero];rw[if_pos (show(s.get! i).toNat<0x80 from h)]
theorem UW {s:ByteArray} {i:Nat} (h:128<=(s.get! i).toNat):57<(Utf8.decode s i).1:=by
 unfold Utf8.decode;simp only[Nat.add_zero];rw[if_neg (show ¬(s.get! i).toNat<0x80 by omega)];have d:57<Utf8.runeError:=by decide
 have e:∀(c:Nat) (b:Bool) (k:Nat),c>=k->57<k->57<c:=λc b k a f=>by omega
 repeat' split
 all_goals first
  |exact d
  |(rename_i a;simp only[Bool.and_eq_true,decide_eq_true_eq] at a;omega)
  |(rename_i a;have a:=of_decide_eq_true a;omega)
  |(rename_i a;omega)
theorem mY (s:ByteArray):∀(f a:Nat),s.size-a<=f->decide (Lib.idxFuncFrom notDig true s f a>=0)= !((s.data.toList.drop a).all Ft)
 |0,a,h=>by
  have:s.data.toList.drop a=[]:=List.drop_eq_nil_of_le (by show s.data.toList.length<=a;have:s.data.toList.length=s.size:=rfl;omega);rw[this];simp[Lib.idxFuncFrom]
 |f+1,a,h=>by
  unfold Lib.idxFuncFrom;by_cases c:a<s.size
  ·rw[if_pos c];have d:a<s.data.toList.length:=c;have hd:s.data.toList.drop a=s.get! a::s.data.toList.drop (a+1):=by
    rw[List.drop_eq_getElem_cons d];congr 1;show _=s.data[a]!;rw[getElem!_pos s.data a c];rfl
   rw[hd];simp only[List.all_cons];by_cases g:(s.get! a).toNat<128
   ·rw[SC g];by_cases b:48<=(s.get! a).toNat/\(s.get! a).toNat<=57
    ·rw[if_neg (by simp only[notDig,Bool.or_eq_true,decide_eq_true_eq];omega),Ec.2 b,Bool.true_and];exact mY s f (a+1) (by omega)
    ·have:Ft (s.get! a)=false:=by cases e:Ft (s.get! a);rfl;exact absurd (Ec.1 e) b
     rw[if_pos (by simp only[notDig,Bool.or_eq_true,decide_eq_true_eq];omega),this];simp
   ·have:=UW (s:=s) (i:=a) (by omega);have hd:Ft (s.get! a)=false:=by cases e:Ft (s.get! a);rfl;have:=Ec.1 e;omega
    rw[if_pos (by simp only[notDig,Bool.or_eq_true,decide_eq_true_eq];omega),hd];simp
  ·rw[if_neg c];have:s.data.toList.drop a=[]:=List.drop_eq_nil_of_le (by have:s.data.toList.length=s.size:=rfl;omega);rw[this];rfl
theorem kQ (s:L8):decide (fZ s>=0)= !Cp s:=by
 have:=mY (bs s) (bs s).size 0 (by omega);simpa[fZ,Lib.idxFunc,Cp,bs] using this
abbrev Ah:Ty:=.pair (.int .i64) (.pair .str (.pair (.int .i64) (.pair .str (.pair (.int .i64) (.pair .str (.pair .str (.pair .str (.pair (.int .i64) (.pair .bool .unit)))))))))
def kR (ts rs:List Ty):PSpec:=⟨ts,rs,λ_=>false,λ_=>gk rs⟩
def Ob:PSpec:=⟨[.byte],[.bool],λ_=>true,λx=>(Cf x.1,())⟩
def Az:PSpec:=⟨[.str],[.bool],λx=>AY x.1,λx=>(isKey x.1,())⟩
def Yi (f:Nat):PSpec:=⟨[.str,.fn f],[.int .i64],λ_=>true,λx=>(fZ x.1,())⟩
def JE:PSpec:=⟨[.str,.int .i64,.int .i64],[.int .i64,.err],λx=>AY x.1&&(decide (x.2.1=10)&&decide (x.2.2.1=64)),λx=>((Ci x.1).1,(Ci x.1).2,())⟩
def PH:PSpec:=⟨[.str,.int .i64,.int .i64,.int .i64],[.int .i64,.bool],λx=>AY x.1,λx=>((AA5 x.1 x.2.1 x.2.2.1 x.2.2.2.1).1,(AA5 x.1 x.2.1 x.2.2.1 x.2.2.2.1).2,())⟩
def A0:PSpec:=⟨[.str,.str],[.bool],λ_=>true,λx=>(Ax x.1 x.2.1,())⟩
def EW:PSpec:=⟨[.str,.str],[.str,.bool],λ_=>true,λx=>((A8 x.1 x.2.1).1,(A8 x.1 x.2.1).2,())⟩
def Yj:PSpec:=⟨[.int .u64],[.str],λx=>decide (0<=x.1)&&decide (x.1<18446744073709551616),λx=>(KF x.1,())⟩
def D6:PSpec:=⟨[.int .i64],[.str],λx=>decide (-9223372036854775808<=x.1)&&decide (x.1<=9223372036854775807),λx=>(Bp x.1,())⟩
end Nice
namespace Go.Proofs.YtkgejlchafionaaGreatDoor
open Tryz
open Nice
abbrev fa:List (Nat×List (Nat×Sh)):=[]
def vw (x:AA [.byte]):Option (AA [.bool]):=fO prog (AL []) (AC fa) f207 [.byte] [.bool] x
theorem qg (N:Nat) (a:UInt8):BV prog (AL []) (AC fa) f207 [.byte] [.bool] N (a,())=
  (bif decide ((↑a.toNat:Int)>=(65:Int)) then
 (bif decide ((↑a.toNat:Int)<=(90:Int)) then
 (some (true,()))
 else
 (some (false,())))
  else
 (some (false,()))):=by kernel_rfl
theorem qh (x:AA [.byte]):vw x=BV prog (AL []) (AC fa) f207 [.byte] [.bool] AE x:=rfl
abbrev KG:List (Nat×List (Nat×Sh)):=[(3,[(2,(.one .sym)),(3,(.one (.vec .byte 5))),(8,(.one (.same 0))),(9,(.one .sym)),(10,(.one .sym))])]
def Fv (n:Nat) (t2:L8) (t3:List (Ty.Den .byte)) (t9 t10:Int):Option (AA [.str]):=rH prog (AL [(207,ABK)]) (AC KG) f235 [.str] n 0 [(2,sy (.string (bs t2))),(3,dt 10),(8,dt 10),(9,sy (.int .i64 t9)),(10,sy (.int .i64 t10))] [.vec .byte t3 5]
def Yk (x:AA [.str]):Option (AA [.str]):=fO prog (AL [(207,ABK)]) (AC KG) f235 [.str] [.str] x
theorem ae (N:Nat) (a:L8):BV prog (AL [(207,ABK)]) (AC KG) f235 [.str] [.str] N (a,())=
 (Fv N ([]) (a) ((↑a.length:Int)) ((0:Int))):=by kernel_rfl
theorem af (x:AA [.str]):Yk x=BV prog (AL [(207,ABK)]) (AC KG) f235 [.str] [.str] AE x:=rfl
theorem QY (n:Nat) (t2:L8) (t3:List (Ty.Den .byte)) (t9 t10:Int) {Qa}[Qa':QA (↑(UInt8.toNat (t3.getD t10.toNat Ty.byte.dflt)):Int) Qa] {Qb}[Qb':QA (IntKind.u8.wrap (IntKind.u8.wrap (Qa+97)-65)) Qb]:Fv (n+1) t2 t3 t9 t10= (bif decide (t10<t9) then (gd [decide (t10.toNat<t3.length),decide (0<=t10),decide (t10<t3.length)] (bif Ij (UInt8.ofNat Qa.toNat) then (gd [decide (Ad .i64 (t10+1)),decide (t10.toNat<t3.length),decide (Ad .u8 Qb),decide (0<=t10),decide (t10<t3.length),decide (Ad .u8 Qa)] (Fv n t2 (t3.set t10.toNat (UInt8.ofNat Qb.toNat)) t9 (t10+1))) else (gd [decide (Ad .i64 (t10+1)),decide (Ad .u8 Qa)] (Fv n t2 t3 t9 (t10+1))))) else (some (t3,()))):=by obtain ⟨rfl⟩:=Qb';obtain ⟨rfl⟩:=Qa';kernel_rfl
abbrev SD:List (Nat×List (Nat×Sh)):=[(2,[(1,(.one .sym)),(4,(.one .sym)),(5,(.one .sym)),(9,(.one (.dat (.pair .str (.pair .str .unit))))),(10,(.one .sym)),(11,(.one .sym))])]
def MX (n:Nat) (t1 t4:L8) (t5:Bool) (t9:List (Ty.Den (.pair .str (.pair .str .unit)))) (t10 t11:Int):Option (AA [.str,.bool]):=rH prog (AL [(235,K8)]) (AC SD) f191 [.str,.bool] n 0 [(1,sy (.string (bs t1))),(4,sy (.string (bs t4))),(5,.bool t5),(9,dt 10),(10,sy (.int .i64 t10)),(11,sy (.int .i64 t11))] [.dat (.pair .str (.pair .str .unit)) t9]
def mZ (x:AA [BD,.str]):Option (AA [.str,.bool]):=fO prog (AL [(235,K8)]) (AC SD) f191 [BD,.str] [.str,.bool] x
theorem kS (N:Nat) (a:Ty.Den BD) (b:L8):BV prog (AL [(235,K8)]) (AC SD) f191 [BD,.str] [.str,.bool] N (a,b,())=
 (MX N (b) ([]) (false) (a.snd.snd.snd.fst) ((↑(List.length a.snd.snd.snd.fst):Int)) ((0:Int))):=by kernel_rfl
theorem kU (x:AA [BD,.str]):mZ x=BV prog (AL [(235,K8)]) (AC SD) f191 [BD,.str] [.str,.bool] AE x:=rfl
theorem Yl (n:Nat) (t1 t4:L8) (t5:Bool) (t9:List (Ty.Den (.pair .str (.pair .str .unit)))) (t10 t11:Int) {Qa}[Qa':QA (t9.getD t11.toNat (DS).dflt) Qa]:MX (n+1) t1 t4 t5 t9 t10 t11= (bif decide (t11<t10) then (gd [decide (t11.toNat<t9.length),decide (0<=t11),decide (t11<t9.length)] (bif Ce Qa.fst==Ce t1 then (gd [EP t1,EP Qa.fst] (some (Qa.snd.fst,true,()))) else (gd [decide (Ad .i64 (t11+1)),EP t1,EP Qa.fst] (MX n t1 t4 t5 t9 t10 (t11+1))))) else (some ([],false,()))):=by obtain ⟨rfl⟩:=Qa';kernel_rfl
abbrev fb:List (Nat×List (Nat×Sh)):=[]
def vx (x:AA [.str,.int .i64]):Option (AA [.str]):=fO prog (AL []) (AC fb) f22 [.str,.int .i64] [.str] x
theorem qi (N:Nat) (a:L8) (b:Int):BV prog (AL []) (AC fb) f22 [.str,.int .i64] [.str] N (a,b,())=
 (gd [decide ((0:Int)<=min (↑a.length:Int) b),decide (min (↑a.length:Int) b<=(↑a.length:Int))] (some (List.take (min (↑a.length:Int) b).toNat a,()))):=by kernel_rfl
theorem qj (x:AA [.str,.int .i64]):vx x=BV prog (AL []) (AC fb) f22 [.str,.int .i64] [.str] AE x:=rfl
open Nice
theorem vy (c:UInt8):vw (c,())=some (Ij c,()):=by
 rw[qh,qg];by_cases b:65<=c.toNat
 ·by_cases d:c.toNat<=90
  ·rw[Fu.2 ⟨b,d⟩];simp(disch:=omega) only[Au]
  ·rw[show Ij c=false by cases a:Ij c;rfl;exact absurd (Fu.1 a).2 d];simp(disch:=omega) only[Au,Av]
 ·rw[show Ij c=false by cases a:Ij c;rfl;exact absurd (Fu.1 a).1 b];simp(disch:=omega) only[Au,Av]
theorem UX (t2:L8) (len:Nat):∀(a done:L8) (n:Nat),len=done.length+a.length->len<=140737488355328->a.length<n->Fv n t2 (done++a) (len:Int) (done.length:Int)=some (done++a.map lo,())
 |[],done,n,b,g,i=>by
  obtain⟨m,rfl⟩:∃m,n=m+1:=⟨n-1,by omega⟩
  simp only[List.length_nil] at b;rw[QY,Av (by omega)];simp
 |c::a,done,n,b,g,i=>by
  obtain⟨m,rfl⟩:∃m,n=m+1:=⟨n-1,by omega⟩
  simp only[List.length_cons] at b i;have o:=c.toNat_lt;have d:=λx=>UX t2 len a (done++[x]) m (by simp;omega) g (by omega)
  simp only[List.append_assoc,List.singleton_append,List.length_append,List.length_singleton,Int.natCast_add] at d;rw[QY];simp only[List.length_append,List.length_cons,Int.toNat_natCast,Dg,Yh,UInt8.ofNat_toNat];cases f:Ij c
  ·have j:¬(65<=c.toNat/\c.toNat<=90):=λh=>by rw[Fu.2 h] at f;cases f
   simp(disch:=omega) only[Au,AP,BM,AH,JD,cond_false];have:=d c;simpa[qf j] using this
  ·obtain⟨k,l⟩:=Fu.1 f;simp(disch:=omega) only[Au,AP,BM,AH,JD,cond_true,MW];have e:UInt8.ofNat ((((c.toNat:Int)+97)%256-65)%256).toNat=lo c:=by rw[vv k l];congr 1;omega
   rw[e];exact d _
theorem ABf (s:L8) (h:EP s=true):Yk (s,())=some (Ce s,()):=by
 have h:s.length<=140737488355328:=of_decide_eq_true h;rw[af,ae];exact UX [] s.length s [] AE (by simp) h (by unfold AE;omega)
theorem fe (t1 t4:L8) (t5:Bool) (j:EP t1=true) (len:Nat):∀(a done:List (L8×L8×Unit)) (n:Nat),len=done.length+a.length->len<=140737488355328->a.all (λh=>EP h.1)=true->a.length<n->
  MX n t1 t4 t5 (done++a) (len:Int) (done.length:Int)=some ((An a t1).1,(An a t1).2,())
 |[],done,n,d,e,b,f=>by
  obtain⟨m,rfl⟩:∃m,n=m+1:=⟨n-1,by omega⟩
  simp only[List.length_nil] at d;rw[Yl,Av (by omega)];rfl
 |c::a,done,n,d,e,b,f=>by
  obtain⟨m,rfl⟩:∃m,n=m+1:=⟨n-1,by omega⟩
  simp only[List.length_cons] at d f;simp only[List.all_cons,Bool.and_eq_true] at b;have g:=fe t1 t4 t5 j len a (done++[c]) m (by simp;omega) e b.2 (by omega);simp only[List.append_assoc,List.singleton_append,List.length_append,List.length_singleton,Int.natCast_add] at g;rw[Yl];simp only[List.length_append,List.length_cons,Int.toNat_natCast,Dg]
  simp(disch:=omega) only[Au,AP,BM];cases i:Ce c.1==Ce t1
  ·simp(disch:=first|omega|assumption|exact b.1) only[AP,Ag,BM,AH,cond_false];simp only[An,i,cond_false];exact g
  ·simp(disch:=first|omega|assumption|exact b.1) only[Ag,BM,cond_true];simp only[An,i,cond_true]
theorem qk (r:Ty.Den BD) (s:L8) (h:D1 r.2.2.2.1 s=true):mZ (r,s,())=some ((An r.2.2.2.1 s).1,(An r.2.2.2.1 s).2,()):=by
 unfold D1 at h;simp only[Bool.and_eq_true,decide_eq_true_eq] at h;rw[kU,kS];exact fe s [] false h.2.1 _ r.2.2.2.1 [] AE (by simp) h.1 h.2.2 (by unfold AE;omega)
theorem vz (s:L8) (n:Int) (h:0<=n):vx (s,n,())=some (cut s n,()):=by
 rw[qj,qi];rw[AP (by omega),AP (Int.min_le_left _ _),BM];have:List.take (min (s.length:Int) n).toNat s=cut s n:=by
  unfold cut;by_cases a:n<=s.length
  ·rw[Int.min_eq_right a]
  ·rw[Int.min_eq_left (by omega),List.take_of_length_le (by simp),List.take_of_length_le (by omega)]
 rw[this]
theorem P0 (s:L8) (c:UInt8):KD (s++[c])=KD s*10+(c.toNat-48):=by simp[KD]
theorem LW {s:L8} {c:UInt8} (a:Cp s=true) (b:Ft c=true):Cp (s++[c])=true:=by simp only[Cp,List.all_append,List.all_cons,List.all_nil,Bool.and_true,Bool.and_eq_true] at a⊢;exact⟨a,b⟩
end Go.Proofs.YtkgejlchafionaaGreatDoor
namespace Nice
def SE (a:Nat) (s:L8):Nat:=s.foldl (λn c=>n*10+(c.toNat-48)) a
theorem Ym:∀(s:L8) (a:Nat),a<=SE a s
 |[],a=>Nat.le_refl _
 |c::r,a=>by
  have:=Ym r (a*10+(c.toNat-48));show a<=SE (a*10+(c.toNat-48)) r;omega
theorem Lf:∀(s:L8) (a:Nat),Cp s=true->a<=18446744073709551615->
  (SE a s<=18446744073709551615->Lib.parseUintM 18446744073709551615 a s=.ok (SE a s))/\(18446744073709551615<SE a s->Lib.parseUintM 18446744073709551615 a s=.range)
 |[],a,_,e=>⟨λ_=>rfl,λh=>by simp only[SE,List.foldl_nil] at h;omega⟩
 |c::r,a,h,e=>by
  simp only[Cp,List.all_cons,Bool.and_eq_true] at h;have hd:=Ec.1 h.1;have f:SE a (c::r)=SE (a*10+(c.toNat-48)) r:=rfl;have g:=Ym r (a*10+(c.toNat-48));rw[f];simp only[Lib.parseUintM,if_pos hd];by_cases b:1844674407370955162<=a
  ·rw[if_pos b];exact⟨λh=>by omega,λ_=>rfl⟩
  ·rw[if_neg b];by_cases d:18446744073709551615<a*10+(c.toNat-48)
   ·rw[if_pos d];exact⟨λh=>by omega,λ_=>rfl⟩
   ·rw[if_neg d];exact Lf r _ h.2 (by omega)
theorem ff {s:L8} (h:Cp s=true) (i:s≠[]):(KD s<9223372036854775808->Ci s=((KD s:Int),true))/\(9223372036854775808<=KD s->(Ci s).2=false):=by
 cases s with
 |nil=>exact absurd rfl i
 |cons c r=>
  have hd:48<=c.toNat/\c.toNat<=57:=by
   simp only[Cp,List.all_cons,Bool.and_eq_true] at h;exact Ec.1 h.1
  obtain⟨d,f⟩:=Lf (c::r) 0 h (by omega);have j:SE 0 (c::r)=KD (c::r):=rfl;rw[j] at d f;have k:¬(c.toNat=43\/c.toNat=45):=by omega
  have g:Lib.parseUintB 64 (c::r)=Lib.parseUintM 18446744073709551615 0 (c::r):=by
   unfold Lib.parseUintB;rw[if_neg (by simp)]
  have l:¬c.toNat=45:=by omega
  by_cases m:KD (c::r)<=18446744073709551615
  ·have e:Lib.parseIntB 64 (c::r)=if 9223372036854775808<=KD (c::r) then .range else .ok (KD (c::r):Int):=by
    rw[Lib.parseIntB_plain 64 c r (by omega) (by omega),g,d m];rfl
   constructor
   ·intro a;unfold Ci;rw[e,if_neg (by omega)]
   ·intro b;unfold Ci;rw[e,if_pos b]
  ·have e:Lib.parseIntB 64 (c::r)=.range:=by
    rw[Lib.parseIntB_plain 64 c r (by omega) (by omega),g,f (by omega)];rfl
   constructor
   ·intro a;omega
   ·intro _;unfold Ci;rw[e]
def BH (x:Nat):Bool:=match FloatKind.f64.decode x with
 | .nan _ _=>false
 |_=>true
def ER (x:Nat):Nat:=FloatKind.f64.encode ((FloatKind.f64.decode x).integral .zero)
def Cq (x a b:Nat):Bool:=Kq .geq .f64 x a&&(Kq .leq .f64 x b&&Kq .eql .f64 x (ER x))
theorem H4 {n k:Nat} (b:1<=n) (a:n<2^(k+1)):n.log2<=k:=by
 have:=(Nat.log2_lt (by omega:n≠0)).2 a;omega
theorem fg (a:Ieee.Toward) (n:Nat):a.cut false n 0=n:=by
 unfold Ieee.Toward.cut;have e:(1<<<min 0 (n.log2+2):Nat)=1:=by rw[Nat.zero_min];rfl
 simp only[e,Nat.div_one,Nat.mod_one,Nat.mul_zero];cases a<;>simp
theorem JF (f:Ieee.Format) (x:Nat):f.word false x=x:=rfl
theorem Lg {n:Nat} (d:1<=n) (e:n<2^53):FloatKind.f64.nearest (n:Int)=(n.log2+1022)*2^52+n*2^(52-n.log2):=by
 have m:=H4 d e;have f:=Nat.log2_self_le (by omega:n≠0);have c:=(Nat.log2_lt (by omega:n≠0)).1 (Nat.lt_succ_self n.log2);have g:decide ((n:Int)<0)=false:=by rw[decide_eq_false_iff_not];omega
 show Ieee.Format.nearest Ieee.double (decide ((n:Int)<0)) (n:Int).natAbs 0=_;rw[g,Int.natAbs_natCast];unfold Ieee.Format.nearest;rw[if_neg (by omega)];have a:Ieee.double.leastPlace= -1074:=by decide
 have b:max ((0:Int)+n.log2-(Ieee.double.fractionBits:Nat)) Ieee.double.leastPlace=(n.log2:Int)-52:=by
  rw[a];show max ((0:Int)+n.log2-52) (-1074)=_;omega
 simp only[b];rw[a];have h:((n.log2:Int)-52-0).toNat=0:=by omega
 have i:((0:Int)-((n.log2:Int)-52)).toNat=52-n.log2:=by omega
 have j:((n.log2:Int)-52- -1074).toNat=n.log2+1022:=by omega
 rw[h,i,j,fg,Nat.shiftLeft_eq];have k:Ieee.double.binade=2^52:=rfl;have l:Ieee.double.infRung=2047*2^52:=by decide
 rw[k,l];have o:n*2^(52-n.log2)<2^53:=by
  calc n*2^(52-n.log2)<2^(n.log2+1)*2^(52-n.log2):=Nat.mul_lt_mul_of_pos_right c (Nat.two_pow_pos _)
   _=2^53:=by rw[<-Nat.pow_add];congr 1;omega
 rw[JF];apply Nat.min_eq_left;omega
theorem Dh {n:Nat} (d:1<=n) (e:n<2^53):FloatKind.f64.decode (FloatKind.f64.nearest (n:Int))=.number false (n*2^(52-n.log2)) ((n.log2:Int)-52):=by
 have r:=H4 d e;have a:=Nat.log2_self_le (by omega:n≠0);have b:=(Nat.log2_lt (by omega:n≠0)).1 (Nat.lt_succ_self n.log2);rw[Lg d e];have f:n*2^(52-n.log2)<2^53:=by
  calc n*2^(52-n.log2)<2^(n.log2+1)*2^(52-n.log2):=Nat.mul_lt_mul_of_pos_right b (Nat.two_pow_pos _)
   _=2^53:=by rw[<-Nat.pow_add];congr 1;omega
 have g:2^52<=n*2^(52-n.log2):=by
  calc 2^52=2^n.log2*2^(52-n.log2):=by rw[<-Nat.pow_add];congr 1;omega
   _<=n*2^(52-n.log2):=Nat.mul_le_mul_right _ a
 generalize n*2^(52-n.log2)=m at f g⊢;have h:Ieee.double.signWeight=2^63:=rfl;have i:Ieee.double.binade=2^52:=rfl;have j:Ieee.double.infRung=2047*2^52:=by decide
 have c:Ieee.double.leastPlace= -1074:=by decide
 show Ieee.Format.read Ieee.double ((n.log2+1022)*2^52+m)=_;unfold Ieee.Format.read;simp only[h,i,j,c];have k:((n.log2+1022)*2^52+m)/2^63%2=0:=by omega
 have l:((n.log2+1022)*2^52+m)%2^63=(n.log2+1022)*2^52+m:=by omega
 rw[k,l,if_neg (by omega),if_pos (by omega)];have o:2^52+((n.log2+1022)*2^52+m)%2^52=m:=by omega
 have p:((n.log2+1022)*2^52+m)/2^52-1=n.log2+1022:=by omega
 rw[o,p];have q:(-1074:Int)+((n.log2+1022:Nat):Int)=(n.log2:Int)-52:=by omega
 rw[q];rfl
theorem PI {n:Nat} (a:1<=n) (b:n<2^53):ER (FloatKind.f64.nearest (n:Int))=FloatKind.f64.nearest (n:Int):=by
 have g:=H4 a b;unfold ER;rw[Dh a b];unfold Ieee.Datum.integral Ieee.Toward.cut;have c:((n.log2:Int)-52).toNat=0:=by omega
 have d:(-((n.log2:Int)-52)).toNat=52-n.log2:=by omega
 simp only[c,d,Nat.shiftLeft_zero,Bool.toNat_false,Nat.add_zero];have e:(1<<<min (52-n.log2) ((n*2^(52-n.log2)).log2+2):Nat)=2^(52-n.log2):=by
  rw[Nat.shiftLeft_eq,Nat.one_mul,Nat.min_eq_left];have:2^(52-n.log2)<=n*2^(52-n.log2):=Nat.le_mul_of_pos_left _ a;have:=(Nat.le_log2 (Nat.ne_of_gt (Nat.lt_of_lt_of_le (Nat.two_pow_pos _) this))).2 this;omega
 rw[e,Nat.mul_div_cancel _ (Nat.two_pow_pos _)];have f:decide ((n:Int)<0)=false:=by rw[decide_eq_false_iff_not];omega
 show _=Ieee.Format.nearest Ieee.double (decide ((n:Int)<0)) (n:Int).natAbs 0;rw[f,Int.natAbs_natCast];rfl
theorem Wx (s:Bool) (m:Nat) (i:Int):Ieee.Datum.order (.number s m i) (.number s m i)=some .eq:=by
 unfold Ieee.Datum.order;simp
theorem Yn {n:Nat} (h:n<65536):BH (FloatKind.f64.nearest (n:Int))=true/\Cq (FloatKind.f64.nearest (n:Int)) 0 4679237813814689792=decide (n<65521):=by
 rcases Nat.eq_zero_or_pos n with rfl|b
 ·decide
 have e:n<2^53:=by omega
 have hd:=Dh b e;have p:n.log2<=15:=H4 b (by omega);refine⟨by unfold BH;rw[hd],?_⟩;have f:FloatKind.f64.decode 0=.number false 0 (-1074):=by decide
 have g:FloatKind.f64.decode 4679237813814689792=.number false (65520*2^37) (-37):=by decide
 have i:FloatKind.f64.format.order (FloatKind.f64.nearest (n:Int)) 0=some .gt:=by
  show Ieee.Datum.order (FloatKind.f64.decode (FloatKind.f64.nearest (n:Int))) (FloatKind.f64.decode 0)=_;rw[hd,f];unfold Ieee.Datum.order Ieee.signed;have c:min ((n.log2:Int)-52) (-1074)= -1074:=by omega
  simp only[c,Bool.false_eq_true,if_false,Nat.shiftLeft_eq,Nat.zero_mul];congr 1;rw[Int.compare_eq_gt];have:0<n*2^(52-n.log2)*2^((n.log2:Int)-52- -1074).toNat:=Nat.mul_pos (Nat.mul_pos b (Nat.two_pow_pos _)) (Nat.two_pow_pos _);omega
 have j:FloatKind.f64.format.order (FloatKind.f64.nearest (n:Int)) 4679237813814689792=some (compare n 65520):=by
  show Ieee.Datum.order (FloatKind.f64.decode (FloatKind.f64.nearest (n:Int))) (FloatKind.f64.decode 4679237813814689792)=_;rw[hd,g];unfold Ieee.Datum.order Ieee.signed;have c:min ((n.log2:Int)-52) (-37)=(n.log2:Int)-52:=by omega
  have k:((n.log2:Int)-52-((n.log2:Int)-52)).toNat=0:=by omega
  have l:((-37:Int)-((n.log2:Int)-52)).toNat=15-n.log2:=by omega
  simp only[c,k,l,Bool.false_eq_true,if_false,Nat.shiftLeft_eq,Nat.pow_zero,Nat.mul_one];have m:65520*2^37*2^(15-n.log2)=65520*2^(52-n.log2):=by
   rw[Nat.mul_assoc,<-Nat.pow_add];congr 2;omega
  rw[m];congr 1;have d:=Nat.two_pow_pos (52-n.log2);generalize 2^(52-n.log2)=q at d;rcases Nat.lt_trichotomy n 65520 with a|heq|FJ
  ·rw[Nat.compare_eq_lt.2 a,Int.compare_eq_lt];exact Int.ofNat_lt.2 (Nat.mul_lt_mul_of_pos_right a d)
  ·rw[Nat.compare_eq_eq.2 heq,Int.compare_eq_eq,heq]
  ·rw[Nat.compare_eq_gt.2 FJ,Int.compare_eq_gt];exact Int.ofNat_lt.2 (Nat.mul_lt_mul_of_pos_right FJ d)
 have o:FloatKind.f64.format.order (FloatKind.f64.nearest (n:Int)) (FloatKind.f64.nearest (n:Int))=some .eq:=by
  show Ieee.Datum.order (FloatKind.f64.decode (FloatKind.f64.nearest (n:Int))) (FloatKind.f64.decode (FloatKind.f64.nearest (n:Int)))=_;rw[hd,Wx]
 unfold Cq Kq;simp only[PI b e,i,j,o];rcases Nat.lt_trichotomy n 65520 with a|heq|FJ
 ·rw[Nat.compare_eq_lt.2 a,decide_eq_true (by omega:n<65521)];rfl
 ·rw[Nat.compare_eq_eq.2 heq,decide_eq_true (by omega:n<65521)];rfl
 ·rw[Nat.compare_eq_gt.2 FJ,decide_eq_false (by omega:¬n<65521)];rfl
def Oc (c:UInt8):Bool:=decide (48<=c.toNat/\c.toNat<=57\/97<=c.toNat/\c.toNat<=102)
def hx (c:UInt8):Int:=bif decide (c.toNat<=57) then(c.toNat:Int)-48 else(c.toNat:Int)-87
def JG:L8->Nat->Int->Int->Option (Int×Int)
 |[],_,a,b=>some (a,b)
 |c::r,i,a,b=>bif Oc c then(bif decide (i<4) then JG r (i+1) (a*16+hx c) b else JG r (i+1) a (b*16+hx c)) else none
def rdZ (s:L8):Option (Int×Int):=bif decide (s.length=8) then(match JG s 0 0 0 with
 |some z=>bif decide (z.1<65521)&&decide (z.2<65521) then some z else none
 |none=>none) else none
def DT (s:L8):(Nat×Nat)×Bool:=match rdZ s with
 |some z=>((FloatKind.f64.nearest z.1,FloatKind.f64.nearest z.2),true)
 |none=>((0,0),false)
def Fw (s:L8):(Int×Int×Unit)×Bool:=match rdZ s with
 |some z=>((z.1,z.2,()),true)
 |none=>((0,0,()),false)
def K9 (a b:Nat):Bool:=Cq a 0 4679237813814689792&&Cq b 0 4679237813814689792
abbrev ZT:Ty:=.pair (.int .i64) (.pair (.int .i64) .unit)
def UY:PSpec:=⟨[.f64],[.f64],λx=>BH x.1,λx=>(ER x.1,())⟩
def JH:PSpec:=⟨[.f64,.f64,.f64],[.bool],λx=>BH x.1,λx=>(Cq x.1 x.2.1 x.2.2.1,())⟩
def Fx:PSpec:=⟨[.cx],[.bool],λx=>BH x.1.1&&BH x.1.2,λx=>(K9 x.1.1 x.1.2,())⟩
def JI:PSpec:=⟨[.str],[.cx,.bool],λ_=>true,λx=>((DT x.1).1,(DT x.1).2,())⟩
def Wy:PSpec:=⟨[.str],[ZT,.bool],λ_=>true,λx=>((Fw x.1).1,(Fw x.1).2,())⟩
def EI (c:UInt8):L8->L8
 |[]=>[]
 |b::r=>bif b==c then [] else b::EI c r
def C0 (c:UInt8) (s:L8):Bool:=s.any (· ==c)
theorem UZ (c:UInt8):∀s,(EI c s).length<=s.length
 |[]=>Nat.le_refl _
 |b::r=>by
  unfold EI;cases b==c
  ·simpa using UZ c r
  ·simp
theorem Yo (c:UInt8):∀s,C0 c s=true->(EI c s).length<s.length
 |[],h=>by cases h
 |b::r,h=>by
  unfold EI;simp only[C0,List.any_cons] at h;cases a:b==c
  ·rw[a,Bool.false_or] at h;simpa using Yo c r h
  ·simp
theorem LA (c:UInt8):∀s,s.take (EI c s).length=EI c s
 |[]=>rfl
 |b::r=>by
  unfold EI;cases b==c
  ·simp[LA c r]
  ·rfl
theorem SF (c:UInt8):∀s,Lib.index s [c]=bif C0 c s then((EI c s).length:Int) else -1
 |[]=>rfl
 |b::r=>by
  have d:=SF c r;rw[Lib.index];simp only[C0,List.any_cons] at d⊢;unfold EI;by_cases a:b=c
  ·subst a;simp[List.isPrefixOf]
  ·have e:(b==c)=false:=by simpa using a
   have f:([c]:L8).isPrefixOf (b::r)=false:=by simp[List.isPrefixOf,Ne.symm a]
   rw[e,f,d];cases r.any (· ==c)
   ·rfl
   ·simp only[cond_true,Bool.or_true,cond_false,List.length_cons];have:(((EI c r).length:Int)== -1)=false:=by
     rw[beq_eq_false_iff_ne];omega
    rw[this];simp
theorem v7 (c:UInt8) (s:L8):Lib.cut s [c]=bif C0 c s then(EI c s,s.drop ((EI c s).length+1),true) else(s,[],false):=by
 unfold Lib.cut;rw[SF];cases C0 c s
 ·rfl
 ·simp only[cond_true];rw[if_pos (Int.natCast_nonneg _),Int.toNat_natCast,LA];rfl
theorem LB (c:UInt8) (s:L8) (h:C0 c s=false):Lib.split s [c]=[s]:=by
 have a:Lib.index s [c]= -1:=by rw[SF,h];rfl
 unfold Lib.split;rw[Lib.count_miss a];rfl
theorem Od (c:UInt8) (s:L8) (h:C0 c s=true):Lib.split s [c]=EI c s::Lib.split (s.drop ((EI c s).length+1)) [c]:=by
 have a:Lib.index s [c]=((EI c s).length:Nat):=by rw[SF,h];rfl
 have b:Lib.count s [c]=1+Lib.count (s.drop ((EI c s).length+1)) [c]:=by
  rw[Lib.count_hit (by simp) a];rfl
 unfold Lib.split;rw[b,Nat.add_comm,Lib.splitK];rw[a];have:(((EI c s).length:Int)== -1)=false:=by rw[beq_eq_false_iff_ne];omega
 rw[this];simp only[Bool.false_eq_true,if_false,Int.toNat_natCast,Nat.add_zero,List.length_singleton];rw[LA]
abbrev Ak:Type:=Int×L8×Int×L8×Int×L8×L8×L8×Int×Bool×Unit
def GZ:L8:=[112,114,101,102,105,120]
def Ga:L8:=[97,102,116,101,114]
def HA:L8:=[109,97,120]
def Gb:L8:=[118,101,114,115,105,111,110,115]
def rW (s:L8):L8:=s++[61]
def JJ (v:L8):Bool:=v==[]||isKey v
def Oe (a:Ak) (v:L8):Ak:=(a.1,a.2.1,a.2.2.1,a.2.2.2.1,a.2.2.2.2.1,a.2.2.2.2.2.1,v,a.2.2.2.2.2.2.2)
def Of (a:Ak) (v:L8):Ak:=(a.1,a.2.1,a.2.2.1,a.2.2.2.1,a.2.2.2.2.1,a.2.2.2.2.2.1,a.2.2.2.2.2.2.1,v,a.2.2.2.2.2.2.2.2)
def FS (a:Ak) (n:Int):Ak:=(a.1,a.2.1,a.2.2.1,a.2.2.2.1,a.2.2.2.2.1,a.2.2.2.2.2.1,a.2.2.2.2.2.2.1,a.2.2.2.2.2.2.2.1,n,a.2.2.2.2.2.2.2.2.2)
def Di (a:Ak) (n:Int):Ak:=(n,a.2)
def FT:L8:=[73,102,45,78,111,110,101,45,77,97,116,99,104]
def FU:L8:=[73,102,45,77,97,116,99,104]
def Bq:L8:=[80,85,84]
def Bl:L8:=[68,69,76,69,84,69]
abbrev Cg:Type:=List (L8×L8×Unit)
abbrev JK:Type:=L8×L8×L8×Cg×L8×Unit
def ag (x:L8):List (L8)->Int->Int
 |[],_=> -1
 |y::r,k=>bif x==y then k else ag x r (k+1)
def kV (l:List (L8)) (x:L8):Int:=ag x l 0
def CV (l:List (L8)) (x:L8):Bool:=l.any λy=>x==y
def Cr (q:L8):List (L8):=Lib.split q [38]
def Ex (p:L8):L8×L8×Bool:=Lib.cut p [61]
def Cs (s:L8):Bool:=decide (s.length<4294967281)
def B0 (l:Cg):Bool:=(D1 l FT&&D1 l FU)&&AY (An l FU).1
def Ua (s:L8):L8×Bool:=((D3 (A8 s [34]).1 [34]).1,(A8 s [34]).2&&((D3 (A8 s [34]).1 [34]).2&&(DT (D3 (A8 s [34]).1 [34]).1).2))
def Bf (l:Cg):Int×L8×Bool:=
 bif (An l FT).2 then(bif (An l FU).2 then(0,[],false) else(1,[],(An l FT).1==[42]))
 else bif (An l FU).2 then(2,(Ua (An l FU).1).1,(Ua (An l FU).1).2) else(0,[],true)
def fh (a:Ak) (b:L8) (c:Int) (t:L8):Ak:=(2,a.2.1,a.2.2.1,b,c,t,a.2.2.2.2.2.2)
def Lh (a:Ak) (k v:Int):Ak:=(k,a.2.1,v,a.2.2.2)
def Og (q:L8):Int×Bool:=((AA5 (A8 q GY).1 (A8 q GY).1.length 1 1099511627776).1,(AA5 (A8 q GY).1 (A8 q GY).1.length 1 1099511627776).2&&((A8 q GY).2&& !((A8 q GY).1.getD 0 0==48)))
def CK (a:Ak) (m q:L8) (c:Cg) (b:L8):Ak×Bool:=
 bif isKey a.2.1 then
  bif m==Bq then(fh a b (Bf c).1 (Bf c).2.1,(Bf c).2.2&&q==[])
  else bif q==[] then(Lh a (bif m==Bl then 3 else 1) a.2.2.1,true)
  else(Lh a (bif m==Bl then 3 else 1) (Og q).1,(Og q).2)
 else(a,false)
def HE (n v:L8) (a:Ak):Ak×Bool:=
 bif n==GZ then(Oe a v,JJ v)
 else bif n==Ga then(Of a v,JJ v)
 else bif n==HA then(FS a (AA5 v 2 1 20).1,(AA5 v 2 1 20).2)
 else bif n==Gb then(Di a 5,v==[49])
 else(a,false)
def BJ:List (L8)->List (L8)->Ak->Ak×Bool
 |[],_,a=>(a,true)
 |p::r,seen,a=>
  bif (Ex p).2.2 then
   bif CV seen (Ex p).1 then(a,false)
   else bif (HE (Ex p).1 (Ex p).2.1 a).2 then BJ r (seen++[(Ex p).1]) (HE (Ex p).1 (Ex p).2.1 a).1
   else((HE (Ex p).1 (Ex p).2.1 a).1,false)
  else(a,false)
def Bk (a:Ak) (q:L8):Ak×Bool:=bif q==[] then(FS (Di a 4) 20,true) else BJ (Cr q) [] (FS (Di a 4) 20)
def KH:PSpec:=⟨[.str,.str],[.bool],λx=>AY x.1,λx=>(GX x.1 x.2.1,())⟩
def KJ:PSpec:=⟨[.str,.str],[.str,.bool],λx=>AY x.1,λx=>((D3 x.1 x.2.1).1,(D3 x.1 x.2.1).2,())⟩
def JL:PSpec:=⟨[.str,.str],[.slice .str],λx=>Cs x.1&&x.2.1==[38],λx=>(Cr x.1,())⟩
def Oh:PSpec:=⟨[.str,.str],[.str,.str,.bool],λx=>Cs x.1&&x.2.1==[61],λx=>((Ex x.1).1,(Ex x.1).2.1,(Ex x.1).2.2,())⟩
def Ub:PSpec:=⟨[.slice .str,.str],[.int .i64],λx=>decide (x.1.length<=1000),λx=>(kV x.1 x.2.1,())⟩
def QZ:PSpec:=⟨[.slice .str,.str],[.bool],λx=>decide (x.1.length<=1000),λx=>(CV x.1 x.2.1,())⟩
def Oi:PSpec:=⟨[BD],[.int .i64,.str,.bool],λx=>B0 x.1.2.2.2.1,λx=>((Bf x.1.2.2.2.1).1,(Bf x.1.2.2.2.1).2.1,(Bf x.1.2.2.2.1).2.2,())⟩
def CE:PSpec:=⟨[Ah,BD],[Ah,.bool],λx=>B0 x.2.1.2.2.2.1&&(AY x.2.1.2.2.1&&AY x.1.2.1),λx=>((CK x.1 x.2.1.1 x.2.1.2.2.1 x.2.1.2.2.2.1 x.2.1.2.2.2.2.1).1,(CK x.1 x.2.1.1 x.2.1.2.2.1 x.2.1.2.2.2.1 x.2.1.2.2.2.2.1).2,())⟩
def CF:PSpec:=⟨[Ah,.str],[Ah,.bool],λx=>Cs x.2.1,λx=>((Bk x.1 x.2.1).1,(Bk x.1 x.2.1).2,())⟩
def ql:L8:=[112,114,101,102,105,120,61]
def qm:L8:=[97,102,116,101,114,61]
def qn:L8:=[109,97,120,61]
def CL:L8:=[71,69,84]
def Aq:L8:=[72,69,65,68]
def oW:L8:=[47,111]
def Gc:L8:=[47,111,47]
end Nice
namespace Go.Proofs.YtkgejlchafionaaGreatDoor
open Tryz
open Nice
abbrev SG:List (Nat×List (Nat×Sh)):=[]
def fj (x:AA [.f64,.f64,.f64]):Option (AA [.bool]):=fO prog (AL [(237,UY)]) (AC SG) f195 [.f64,.f64,.f64] [.bool] x
theorem fl (N a b c:Nat):BV prog (AL [(237,UY)]) (AC SG) f195 [.f64,.f64,.f64] [.bool] N (a,b,c,())=
 (bif Kq BinOp.geq FloatKind.f64 a b then
  (bif Kq BinOp.leq FloatKind.f64 a c then
   (bif Kq BinOp.eql FloatKind.f64 a (ER a) then
    (gd [BH a] (some (true,())))
   else
    (gd [BH a] (some (false,()))))
  else
   (some (false,())))
 else
  (some (false,()))):=by kernel_rfl
theorem fm (x:AA [.f64,.f64,.f64]):fj x=BV prog (AL [(237,UY)]) (AC SG) f195 [.f64,.f64,.f64] [.bool] AE x:=rfl
abbrev Wz:List (Nat×List (Nat×Sh)):=[]
def ma (x:AA [.cx]):Option (AA [.bool]):=fO prog (AL [(195,JH)]) (AC Wz) f149 [.cx] [.bool] x
theorem kW (N:Nat) (a:Nat×Nat):BV prog (AL [(195,JH)]) (AC Wz) f149 [.cx] [.bool] N (a,())=
 (bif Cq a.fst 0 4679237813814689792 then
  (bif Cq a.snd 0 4679237813814689792 then
   (gd [BH a.snd,BH a.fst] (some (true,())))
  else
   (gd [BH a.snd,BH a.fst] (some (false,()))))
 else
  (gd [BH a.fst] (some (false,())))):=by kernel_rfl
theorem kX (x:AA [.cx]):ma x=BV prog (AL [(195,JH)]) (AC Wz) f149 [.cx] [.bool] AE x:=rfl
abbrev MY:List (Nat×List (Nat×Sh)):=[(5,[(0,(.one .sym)),(2,(.one .any)),(3,(.one .sym)),(4,(.obj [.sym,.sym])),(12,(.one .sym)),(13,(.one .sym))])]
def Fy (n:Nat) (t0:L8) (t3:Bool) (t4_0 t4_1 t12 t13:Int):Option (AA [.cx,.bool]):=rH prog (AL [(149,Fx)]) (AC MY) f101 [.cx,.bool] n 0 [(0,sy (.string (bs t0))),(2,Value.complex FloatKind.f64 0 0),(3,.bool t3),(4,.pointer (some ⟨10,0,none⟩)),(12,sy (.int .i64 t12)),(13,sy (.int .i64 t13))] [.row [sy (.int .i64 t4_0),sy (.int .i64 t4_1)] 208 false]
def fo (x:AA [.str]):Option (AA [.cx,.bool]):=fO prog (AL [(149,Fx)]) (AC MY) f101 [.str] [.cx,.bool] x
theorem fp (N:Nat) (a:L8):BV prog (AL [(149,Fx)]) (AC MY) f101 [.str] [.cx,.bool] N (a,())=
 (bif (↑a.length:Int) !=(8:Int) then
  (some ((0,0),false,()))
 else
  (Fy N (a) (false) ((0:Int)) ((0:Int)) ((↑a.length:Int)) ((0:Int)))):=by kernel_rfl
theorem fq (x:AA [.str]):fo x=BV prog (AL [(149,Fx)]) (AC MY) f101 [.str] [.cx,.bool] AE x:=rfl
theorem Uc (n:Nat) (t0:L8) (t3:Bool) (t4_0 t4_1 t12 t13:Int) {Qb}[Qb':QA (↑(t0.getD t13.toNat 0).toNat:Int) Qb] {Qc}[Qc':QA (t13.tdiv ((4:Int))) Qc] {Qd}[Qd':QA (Fy n t0 t3) Qd] {Qg}[Qg':QA (t4_0*(16:Int)+(Qb-87)) Qg] {Qh}[Qh':QA (t4_1*(16:Int)+(Qb-87)) Qh] {Qk}[Qk':QA (some ((0,0),false,())) Qk] {Ql}[Ql':QA (t4_0*(16:Int)) Ql] {Qm}[Qm':QA (t4_1*(16:Int)) Qm] {Qa}[Qa':QA (bif decide (Qb>=97) then (bif decide (Qb<=102) then (gd [decide (Ad .i64 (Qb-87))] (bif t13.tdiv ((4:Int))==0 then (bif t13.tdiv ((4:Int))==0 then (gd [decide (Ad .i64 (t13+1)),decide (Ad .i64 Qg),decide (Ad .i64 Ql),decide (Ad .i64 Qc),decide (Ad .i64 Qc)] (Qd Qg t4_1 t12 (t13+1))) else (gd [decide (Ad .i64 (t13+1)),decide (Ad .i64 Qg),decide (Ad .i64 Ql),decide (Ad .i64 Qc),decide (Ad .i64 Qc),t13.tdiv ((4:Int))==1] (Qd t4_0 Qg t12 (t13+1)))) else (gd [t13.tdiv ((4:Int))==1] (bif t13.tdiv ((4:Int))==0 then (gd [decide (Ad .i64 (t13+1)),decide (Ad .i64 Qh),decide (Ad .i64 Qm),decide (Ad .i64 Qc),decide (Ad .i64 Qc)] (Qd Qh t4_1 t12 (t13+1))) else (gd [decide (Ad .i64 (t13+1)),decide (Ad .i64 Qh),decide (Ad .i64 Qm),decide (Ad .i64 Qc),decide (Ad .i64 Qc),t13.tdiv ((4:Int))==1] (Qd t4_0 Qh t12 (t13+1))))))) else Qk) else Qk) Qa] {Qe}[Qe':QA (t4_0*(16:Int)+(Qb-48)) Qe] {Qf}[Qf':QA (t4_1*(16:Int)+(Qb-48)) Qf] {Qi}[Qi':QA (FloatKind.f64.nearest t4_0) Qi] {Qj}[Qj':QA (FloatKind.f64.nearest t4_1) Qj]:Fy (n+1) t0 t3 t4_0 t4_1 t12 t13= (bif decide (t13<t12) then (gd [decide (Ad .i64 Qb),decide (0<=t13),decide (t13<t0.length)] (bif decide (Qb>=48) then (bif decide (Qb<=57) then (gd [decide (Ad .i64 (Qb-48))] (bif t13.tdiv ((4:Int))==0 then (bif t13.tdiv ((4:Int))==0 then (gd [decide (Ad .i64 (t13+1)),decide (Ad .i64 Qe),decide (Ad .i64 Ql),decide (Ad .i64 Qc),decide (Ad .i64 Qc)] (Qd Qe t4_1 t12 (t13+1))) else (gd [decide (Ad .i64 (t13+1)),decide (Ad .i64 Qe),decide (Ad .i64 Ql),decide (Ad .i64 Qc),decide (Ad .i64 Qc),t13.tdiv ((4:Int))==1] (Qd t4_0 Qe t12 (t13+1)))) else (gd [t13.tdiv ((4:Int))==1] (bif t13.tdiv ((4:Int))==0 then (gd [decide (Ad .i64 (t13+1)),decide (Ad .i64 Qf),decide (Ad .i64 Qm),decide (Ad .i64 Qc),decide (Ad .i64 Qc)] (Qd Qf t4_1 t12 (t13+1))) else (gd [decide (Ad .i64 (t13+1)),decide (Ad .i64 Qf),decide (Ad .i64 Qm),decide (Ad .i64 Qc),decide (Ad .i64 Qc),t13.tdiv ((4:Int))==1] (Qd t4_0 Qf t12 (t13+1))))))) else Qa) else Qa)) else (bif K9 Qi Qj then (gd [BH Qi&&BH Qj] (some ((FloatKind.f64.nearest t4_0,FloatKind.f64.nearest t4_1),true,()))) else (gd [BH Qi&&BH Qj] Qk))):=by obtain ⟨rfl⟩:=Qj';obtain ⟨rfl⟩:=Qi';obtain ⟨rfl⟩:=Qf';obtain ⟨rfl⟩:=Qe';obtain ⟨rfl⟩:=Qa';obtain ⟨rfl⟩:=Qm';obtain ⟨rfl⟩:=Ql';obtain ⟨rfl⟩:=Qk';obtain ⟨rfl⟩:=Qh';obtain ⟨rfl⟩:=Qg';obtain ⟨rfl⟩:=Qd';obtain ⟨rfl⟩:=Qc';obtain ⟨rfl⟩:=Qb';kernel_rfl
abbrev MZ:List (Nat×List (Nat×Sh)):=[(5,[(0,(.one .sym)),(2,(.obj [.sym,.sym])),(3,(.one .sym)),(4,(.obj [.sym,.sym])),(5,(.one .sym))])]
def F0 (n:Nat) (t0:L8) (t2_0 t2_1:Int) (t3:Bool) (t4_0 t4_1 t5:Int):Option (AA [ZT,.bool]):=rH prog (AL []) (AC MZ) f27 [ZT,.bool] n 0 [(0,sy (.string (bs t0))),(2,.pointer (some ⟨10,0,none⟩)),(3,.bool t3),(4,.pointer (some ⟨11,0,none⟩)),(5,sy (.int .i64 t5))] [.row [sy (.int .i64 t2_0),sy (.int .i64 t2_1)] 78 false,.row [sy (.int .i64 t4_0),sy (.int .i64 t4_1)] 107 false]
def ft (x:AA [.str]):Option (AA [ZT,.bool]):=fO prog (AL []) (AC MZ) f27 [.str] [ZT,.bool] x
theorem fu (N:Nat) (a:L8):BV prog (AL []) (AC MZ) f27 [.str] [ZT,.bool] N (a,())=
 (bif (↑a.length:Int) !=(8:Int) then
  (some (((0:Int),(0:Int),()),false,()))
 else
  (F0 N (a) ((0:Int)) ((0:Int)) (false) ((0:Int)) ((0:Int)) ((0:Int)))):=by kernel_rfl
theorem fw (x:AA [.str]):ft x=BV prog (AL []) (AC MZ) f27 [.str] [ZT,.bool] AE x:=rfl
theorem Ud (n:Nat) (t0:L8) (t2_0 t2_1:Int) (t3:Bool) (t4_0 t4_1 t5:Int) {Qb}[Qb':QA (↑(t0.getD t5.toNat 0).toNat:Int) Qb] {Qc}[Qc':QA (t5.tdiv ((4:Int))) Qc] {Qd}[Qd':QA (F0 n t0 t2_0 t2_1 t3) Qd] {Qe}[Qe':QA (some (((0:Int),(0:Int),()),false,())) Qe] {Qh}[Qh':QA (t4_0*(16:Int)+(Qb-87)) Qh] {Qi}[Qi':QA (t4_1*(16:Int)+(Qb-87)) Qi] {Qj}[Qj':QA (t4_0*(16:Int)) Qj] {Qk}[Qk':QA (t4_1*(16:Int)) Qk] {Qa}[Qa':QA (bif decide (Qb>=97) then (bif decide (Qb<=102) then (gd [decide (Ad .i64 (Qb-87))] (bif t5.tdiv ((4:Int))==0 then (bif t5.tdiv ((4:Int))==0 then (gd [decide (Ad .i64 (t5+1)),decide (Ad .i64 Qh),decide (Ad .i64 Qj),decide (Ad .i64 Qc),decide (Ad .i64 Qc)] (Qd Qh t4_1 (t5+1))) else (gd [decide (Ad .i64 (t5+1)),decide (Ad .i64 Qh),decide (Ad .i64 Qj),decide (Ad .i64 Qc),decide (Ad .i64 Qc),t5.tdiv ((4:Int))==1] (Qd t4_0 Qh (t5+1)))) else (gd [t5.tdiv ((4:Int))==1] (bif t5.tdiv ((4:Int))==0 then (gd [decide (Ad .i64 (t5+1)),decide (Ad .i64 Qi),decide (Ad .i64 Qk),decide (Ad .i64 Qc),decide (Ad .i64 Qc)] (Qd Qi t4_1 (t5+1))) else (gd [decide (Ad .i64 (t5+1)),decide (Ad .i64 Qi),decide (Ad .i64 Qk),decide (Ad .i64 Qc),decide (Ad .i64 Qc),t5.tdiv ((4:Int))==1] (Qd t4_0 Qi (t5+1))))))) else Qe) else Qe) Qa] {Qf}[Qf':QA (t4_0*(16:Int)+(Qb-48)) Qf] {Qg}[Qg':QA (t4_1*(16:Int)+(Qb-48)) Qg]:F0 (n+1) t0 t2_0 t2_1 t3 t4_0 t4_1 t5= (bif decide (t5<8) then (gd [decide (Ad .i64 Qb),decide (0<=t5),decide (t5<t0.length)] (bif decide (Qb>=48) then (bif decide (Qb<=57) then (gd [decide (Ad .i64 (Qb-48))] (bif t5.tdiv ((4:Int))==0 then (bif t5.tdiv ((4:Int))==0 then (gd [decide (Ad .i64 (t5+1)),decide (Ad .i64 Qf),decide (Ad .i64 Qj),decide (Ad .i64 Qc),decide (Ad .i64 Qc)] (Qd Qf t4_1 (t5+1))) else (gd [decide (Ad .i64 (t5+1)),decide (Ad .i64 Qf),decide (Ad .i64 Qj),decide (Ad .i64 Qc),decide (Ad .i64 Qc),t5.tdiv ((4:Int))==1] (Qd t4_0 Qf (t5+1)))) else (gd [t5.tdiv ((4:Int))==1] (bif t5.tdiv ((4:Int))==0 then (gd [decide (Ad .i64 (t5+1)),decide (Ad .i64 Qg),decide (Ad .i64 Qk),decide (Ad .i64 Qc),decide (Ad .i64 Qc)] (Qd Qg t4_1 (t5+1))) else (gd [decide (Ad .i64 (t5+1)),decide (Ad .i64 Qg),decide (Ad .i64 Qk),decide (Ad .i64 Qc),decide (Ad .i64 Qc),t5.tdiv ((4:Int))==1] (Qd t4_0 Qg (t5+1))))))) else Qa) else Qa)) else (bif decide (t4_0>=65521) then Qe else (bif decide (t4_1>=65521) then Qe else (some ((t4_0,t4_1,()),true,()))))):=by obtain ⟨rfl⟩:=Qg';obtain ⟨rfl⟩:=Qf';obtain ⟨rfl⟩:=Qa';obtain ⟨rfl⟩:=Qk';obtain ⟨rfl⟩:=Qj';obtain ⟨rfl⟩:=Qi';obtain ⟨rfl⟩:=Qh';obtain ⟨rfl⟩:=Qe';obtain ⟨rfl⟩:=Qd';obtain ⟨rfl⟩:=Qc';obtain ⟨rfl⟩:=Qb';kernel_rfl
end Go.Proofs.YtkgejlchafionaaGreatDoor
namespace Nice
def Ue (i:Nat) (a b:Int):Prop:=0<=a/\0<=b/\(i<4->a<16^i/\b=0)/\(4<=i->a<65536/\b<16^(i-4))
theorem fx:Ue 0 0 0:=⟨by omega,by omega,λ_=>⟨by decide,rfl⟩,λh=>absurd h (by decide)⟩
theorem mb (i:Nat):(16:Int)^(i+1)=16*16^i:=by rw[Int.pow_succ,Int.mul_comm]
theorem Uf {i:Nat} (h:i<=3):(16:Int)^i<=4096:=by
 have:i=0\/i=1\/i=2\/i=3:=by omega
 rcases this with rfl|rfl|rfl|rfl<;>decide
theorem LC {i:Nat} {a b v:Int} (h:Ue i a b) (d:i<4) (g:0<=v) (j:v<=15):Ue (i+1) (a*16+v) b/\a*16+v<=65535:=by
 obtain⟨k,l,f,m⟩:=h;obtain⟨n,c⟩:=f d;have:=mb i;have:=Uf (show i<=3 by omega);refine⟨⟨by omega,by omega,λh=>⟨by omega,c⟩,λh=> ?_⟩,by omega⟩;have e:i=3:=by omega
 subst e;refine⟨by omega,?_⟩;rw[c];decide
theorem LD {i:Nat} {a b v:Int} (h:Ue i a b) (c:4<=i) (d:i<8) (k:0<=v) (l:v<=15):Ue (i+1) a (b*16+v)/\b*16+v<=65535:=by
 obtain⟨f,m,n,g⟩:=h;obtain⟨j,o⟩:=g c;have e:i+1-4=(i-4)+1:=by omega
 have:=mb (i-4);have:=Uf (show i-4<=3 by omega);exact⟨⟨f,by omega,λh=>by omega,λ_=>⟨j,by rw[e];omega⟩⟩,by omega⟩
theorem fy {a b:Int} (h:Ue 8 a b):0<=a/\a<65536/\0<=b/\b<65536:=by
 obtain⟨c,d,i,e⟩:=h;obtain⟨f,g⟩:=e (by decide);exact⟨c,f,d,g⟩
theorem EJ {c:UInt8}:Oc c=true↔(48<=c.toNat/\c.toNat<=57\/97<=c.toNat/\c.toNat<=102):=by
 unfold Oc;rw[decide_eq_true_iff]
theorem mc {a b:Int} (i:0<=a) (j:a<65536) (l:0<=b) (o:b<65536):(BH (FloatKind.f64.nearest a)&&BH (FloatKind.f64.nearest b))=true/\K9 (FloatKind.f64.nearest a) (FloatKind.f64.nearest b)=(decide (a<65521)&&decide (b<65521)):=by
 obtain⟨m,rfl⟩:∃m:Nat,a=(m:Int):=⟨a.toNat,by omega⟩
 obtain⟨k,rfl⟩:∃k:Nat,b=(k:Int):=⟨b.toNat,by omega⟩
 obtain⟨c,d⟩:=Yn (n:=m) (by omega);obtain⟨e,f⟩:=Yn (n:=k) (by omega);refine⟨by rw[c,e];rfl,?_⟩;have g:decide (m<65521)=decide ((m:Int)<65521):=by rw[decide_eq_decide];omega
 have h:decide (k<65521)=decide ((k:Int)<65521):=by rw[decide_eq_decide];omega
 unfold K9;rw[d,f,g,h]
end Nice
namespace Go.Proofs.YtkgejlchafionaaGreatDoor
open Tryz
open Nice
theorem ABg (x a b:Nat) (h:BH x=true):fj (x,a,b,())=some (Cq x a b,()):=by
 rw[fm,fl];unfold Cq;cases Kq .geq .f64 x a<;>cases Kq .leq .f64 x b<;>cases Kq .eql .f64 x (ER x)<;>simp[gd,h]
theorem kY (z:Nat×Nat) (h:(BH z.1&&BH z.2)=true):ma (z,())=some (K9 z.1 z.2,()):=by
 rw[Bool.and_eq_true] at h;rw[kX,kW];unfold K9;cases Cq z.1 0 4679237813814689792<;>cases Cq z.2 0 4679237813814689792<;>simp[gd,h.1,h.2]
def Dn (z:Option (Int×Int)):Option (Int×Int):=match z with
 |some z=>bif decide (z.1<65521)&&decide (z.2<65521) then some z else none
 |none=>none
theorem Ma {i:Nat} (h:i<4):((i:Int)).tdiv 4=0:=by
 rw[Int.tdiv_eq_ediv_of_nonneg (by omega)];omega
theorem Mb {i:Nat} (h:4<=i) (a:i<8):((i:Int)).tdiv 4=1:=by
 rw[Int.tdiv_eq_ediv_of_nonneg (by omega)];omega
theorem xn {α:Type} {a b:α}:(bif ((0:Int)==(0:Int)) then a else b)=a:=by
 have h:((0:Int)==(0:Int))=true:=by decide
 rw[h,cond_true]
theorem xo {α:Type} {a b:α}:(bif ((1:Int)==(0:Int)) then a else b)=b:=by
 have h:((1:Int)==(0:Int))=false:=by decide
 rw[h,cond_false]
theorem g11 {α:Type} {l:List Bool} {r:Option α}:gd (((1:Int)==(1:Int))::l) r=gd l r:=by
 have h:((1:Int)==(1:Int))=true:=by decide
 exact Ag h
theorem gZ {α:Type} {r:Option α}:gd [] r=r:=by cases r<;>rw[BM]
theorem kZ (s:L8) (t3:Bool) (d:L8):∀(done:L8) (n:Nat) (a b:Int),s=done++d->done.length+d.length=8->Ue done.length a b->d.length<n->
  Fy n s t3 a b 8 (done.length:Int)=match Dn (JG d done.length a b) with
   |some z=>some ((FloatKind.f64.nearest z.1,FloatKind.f64.nearest z.2),true,())
   |none=>some ((0,0),false,()):=by
 induction d with
 |nil=>
  intro done n a b k l e x;obtain⟨m,rfl⟩:∃m,n=m+1:=⟨n-1,by omega⟩
  simp only[List.length_nil,Nat.add_zero] at l;rw[l] at e;obtain⟨A,i2,i3,i4⟩:=fy e;obtain⟨y,B⟩:=mc A i2 i3 i4;rw[Uc,Av (by omega),B];simp only[JG,Dn];cases H:decide (a<65521)&&decide (b<65521)
  ·simp only[cond_false];rw[Ag y,gZ]
  ·simp only[cond_true];rw[Ag y,gZ]
 |cons c d p=>
  intro done n a b k l e x;obtain⟨m,rfl⟩:∃m,n=m+1:=⟨n-1,by omega⟩
  simp only[List.length_cons] at l x;have I:=c.toNat_lt;have q:=λC D=>p (done++[c]) m C D (by rw[k];simp) (by simp;omega)
  simp only[List.length_append,List.length_singleton,Int.natCast_add] at q;have E:s.getD done.length 0=c:=by rw[k,Dg]
  have F:s.length=8:=by rw[k];simp;omega
  rw[Uc];simp only[F,Int.toNat_natCast,E];rw[Au (by omega)];have key:∀v:Int,0<=v->v<=15->Oc c=true->hx c=v->(done.length<4->Fy m s t3 (a*16+v) b 8 ((done.length:Int)+1)=match Dn (JG (c::d) done.length a b) with
    |some z=>some ((FloatKind.f64.nearest z.1,FloatKind.f64.nearest z.2),true,())
    |none=>some ((0,0),false,()))/\(4<=done.length->Fy m s t3 a (b*16+v) 8 ((done.length:Int)+1)=match Dn (JG (c::d) done.length a b) with
    |some z=>some ((FloatKind.f64.nearest z.1,FloatKind.f64.nearest z.2),true,())
    |none=>some ((0,0),false,())):=by
   intro v i o g r;simp only[JG,g,cond_true,r];constructor
   ·intro f;rw[Au f];exact q _ _ (LC e f i o).1 (by omega)
   ·intro f;rw[Av (by omega)];exact q _ _ (LD e f (by omega) i o).1 (by omega)
  have j:Oc c=false->(match Dn (JG (c::d) done.length a b) with
    |some z=>some ((FloatKind.f64.nearest z.1,FloatKind.f64.nearest z.2),true,())
    |none=>some ((0,0),false,()):Option (AA [.cx,.bool]))=some ((0,0),false,()):=by
   intro g;simp only[JG,g,cond_false,Dn]
  by_cases o:48<=c.toNat
  ·by_cases t:c.toNat<=57
   ·obtain⟨u,w⟩:=key ((c.toNat:Int)-48) (by omega) (by omega) (EJ.2 (.inl ⟨o,t⟩)) (by unfold hx;rw[Au t]);by_cases f:done.length<4
    ·have h:=(LC e f (v:=(c.toNat:Int)-48) (by omega) (by omega)).2;have i:=e.1;simp only[Ma f,xn];simp(disch:=omega) only[Au,AP,gZ,AH];exact u f
    ·have h:=(LD e (by omega) (by omega) (v:=(c.toNat:Int)-48) (by omega) (by omega)).2;have i:=e.2.1;simp only[Mb (show 4<=done.length by omega) (by omega),xo,g11];simp(disch:=omega) only[Au,AP,gZ,AH,g11];exact w (by omega)
   ·by_cases G:97<=c.toNat/\c.toNat<=102
    ·obtain⟨u,w⟩:=key ((c.toNat:Int)-87) (by omega) (by omega) (EJ.2 (.inr G)) (by unfold hx;rw[Av t]);by_cases f:done.length<4
     ·have h:=(LC e f (v:=(c.toNat:Int)-87) (by omega) (by omega)).2;have i:=e.1;simp only[Ma f,xn];simp(disch:=omega) only[Au,Av,AP,gZ,AH];exact u f
     ·have h:=(LD e (by omega) (by omega) (v:=(c.toNat:Int)-87) (by omega) (by omega)).2;have i:=e.2.1;simp only[Mb (show 4<=done.length by omega) (by omega),xo,g11];simp(disch:=omega) only[Au,Av,AP,gZ,AH,g11];exact w (by omega)
    ·rw[j (by cases h:Oc c;rfl;have:=EJ.1 h;omega)];by_cases J:97<=c.toNat
     ·simp(disch:=omega) only[Au,Av,AP,gZ,AH]
     ·simp(disch:=omega) only[Au,Av,AP,gZ,AH]
  ·rw[j (by cases h:Oc c;rfl;have:=EJ.1 h;omega)];simp(disch:=omega) only[Au,Av,AP,gZ,AH]
theorem ka (s:L8):fo (s,())=some ((DT s).1,(DT s).2,()):=by
 rw[fq,fp];unfold DT rdZ;by_cases h:s.length=8
 ·have e:((s.length:Int) !=8)=false:=by rw[h];rfl
  have a:((s.length:Int))=8:=by omega
  rw[e,cond_false,decide_eq_true h,cond_true,a];have:=kZ s false s [] AE 0 0 rfl (by simpa using h) fx (by unfold AE;omega);refine this.trans ?_;show _=some ((match Dn (JG s 0 0 0) with
   |some z=>((FloatKind.f64.nearest z.1,FloatKind.f64.nearest z.2),true)
   |none=>((0,0),false)).1,(match Dn (JG s 0 0 0) with
   |some z=>((FloatKind.f64.nearest z.1,FloatKind.f64.nearest z.2),true)
   |none=>((0,0),false)).2,())
  show(match Dn (JG s 0 0 0) with
   |some z=>some ((FloatKind.f64.nearest z.1,FloatKind.f64.nearest z.2),true,())
   |none=>some ((0,0),false,()))=_
  cases Dn (JG s 0 0 0)<;>rfl
 ·have e:((s.length:Int) !=8)=true:=by simp;omega
  rw[e,cond_true,decide_eq_false h];rfl
theorem kb (s:L8) (q r:Int) (t3:Bool) (d:L8):∀(done:L8) (n:Nat) (a b:Int),s=done++d->done.length+d.length=8->Ue done.length a b->d.length<n->
  F0 n s q r t3 a b (done.length:Int)=match Dn (JG d done.length a b) with
   |some z=>some ((z.1,z.2,()),true,())
   |none=>some ((0,0,()),false,()):=by
 induction d with
 |nil=>
  intro done n a b o p e A;obtain⟨m,rfl⟩:∃m,n=m+1:=⟨n-1,by omega⟩
  simp only[List.length_nil,Nat.add_zero] at p;rw[p] at e;obtain⟨G,i2,i3,i4⟩:=fy e;rw[Ud,Av (by omega)];simp only[JG,Dn];by_cases g:a<65521
  ·by_cases j:b<65521
   ·rw[decide_eq_true g,decide_eq_true j,Av (by omega),Av (by omega)];rfl
   ·rw[decide_eq_true g,decide_eq_false j,Av (by omega),Au (by omega)];rfl
  ·rw[decide_eq_false g,Au (by omega)];rfl
 |cons c d t=>
  intro done n a b o p e A;obtain⟨m,rfl⟩:∃m,n=m+1:=⟨n-1,by omega⟩
  simp only[List.length_cons] at p A;have H:=c.toNat_lt;have u:=λB C=>t (done++[c]) m B C (by rw[o];simp) (by simp;omega)
  simp only[List.length_append,List.length_singleton,Int.natCast_add] at u;have D:s.getD done.length 0=c:=by rw[o,Dg]
  have E:s.length=8:=by rw[o];simp;omega
  rw[Ud];simp only[E,Int.toNat_natCast,D];rw[Au (by omega)];have key:∀v:Int,0<=v->v<=15->Oc c=true->hx c=v->(done.length<4->F0 m s q r t3 (a*16+v) b ((done.length:Int)+1)=match Dn (JG (c::d) done.length a b) with
    |some z=>some ((z.1,z.2,()),true,())
    |none=>some ((0,0,()),false,()))/\(4<=done.length->F0 m s q r t3 a (b*16+v) ((done.length:Int)+1)=match Dn (JG (c::d) done.length a b) with
    |some z=>some ((z.1,z.2,()),true,())
    |none=>some ((0,0,()),false,())):=by
   intro v k g h w;simp only[JG,h,cond_true,w];constructor
   ·intro f;rw[Au f];exact u _ _ (LC e f k g).1 (by omega)
   ·intro f;rw[Av (by omega)];exact u _ _ (LD e f (by omega) k g).1 (by omega)
  have l:Oc c=false->(match Dn (JG (c::d) done.length a b) with
    |some z=>some ((z.1,z.2,()),true,())
    |none=>some ((0,0,()),false,()):Option (AA [ZT,.bool]))=some ((0,0,()),false,()):=by
   intro h;simp only[JG,h,cond_false,Dn]
  by_cases g:48<=c.toNat
  ·by_cases j:c.toNat<=57
   ·obtain⟨x,y⟩:=key ((c.toNat:Int)-48) (by omega) (by omega) (EJ.2 (.inl ⟨g,j⟩)) (by unfold hx;rw[Au j]);by_cases f:done.length<4
    ·have i:=(LC e f (v:=(c.toNat:Int)-48) (by omega) (by omega)).2;have k:=e.1;simp only[Ma f,xn];simp(disch:=omega) only[Au,AP,gZ,AH];exact x f
    ·have i:=(LD e (by omega) (by omega) (v:=(c.toNat:Int)-48) (by omega) (by omega)).2;have k:=e.2.1;simp only[Mb (show 4<=done.length by omega) (by omega),xo,g11];simp(disch:=omega) only[Au,AP,gZ,AH,g11];exact y (by omega)
   ·by_cases F:97<=c.toNat/\c.toNat<=102
    ·obtain⟨x,y⟩:=key ((c.toNat:Int)-87) (by omega) (by omega) (EJ.2 (.inr F)) (by unfold hx;rw[Av j]);by_cases f:done.length<4
     ·have i:=(LC e f (v:=(c.toNat:Int)-87) (by omega) (by omega)).2;have k:=e.1;simp only[Ma f,xn];simp(disch:=omega) only[Au,Av,AP,gZ,AH];exact x f
     ·have i:=(LD e (by omega) (by omega) (v:=(c.toNat:Int)-87) (by omega) (by omega)).2;have k:=e.2.1;simp only[Mb (show 4<=done.length by omega) (by omega),xo,g11];simp(disch:=omega) only[Au,Av,AP,gZ,AH,g11];exact y (by omega)
    ·rw[l (by cases i:Oc c;rfl;have:=EJ.1 i;omega)];by_cases I:97<=c.toNat
     ·simp(disch:=omega) only[Au,Av,AP,gZ,AH]
     ·simp(disch:=omega) only[Au,Av,AP,gZ,AH]
  ·rw[l (by cases i:Oc c;rfl;have:=EJ.1 i;omega)];simp(disch:=omega) only[Au,Av,AP,gZ,AH]
theorem kc (s:L8):ft (s,())=some ((Fw s).1,(Fw s).2,()):=by
 rw[fw,fu];unfold Fw rdZ;by_cases h:s.length=8
 ·have e:((s.length:Int) !=8)=false:=by rw[h];rfl
  rw[e,cond_false,decide_eq_true h,cond_true];have:=kb s 0 0 false s [] AE 0 0 rfl (by simpa using h) fx (by unfold AE;omega);refine this.trans ?_;show _=some ((match Dn (JG s 0 0 0) with
   |some z=>((z.1,z.2,()),true)
   |none=>((0,0,()),false)).1,(match Dn (JG s 0 0 0) with
   |some z=>((z.1,z.2,()),true)
   |none=>((0,0,()),false)).2,())
  show(match Dn (JG s 0 0 0) with
   |some z=>some ((z.1,z.2,()),true,())
   |none=>some ((0,0,()),false,()))=_
  cases Dn (JG s 0 0 0)<;>rfl
 ·have e:((s.length:Int) !=8)=true:=by simp;omega
  rw[e,cond_true,decide_eq_false h];rfl
end Go.Proofs.YtkgejlchafionaaGreatDoor
namespace Nice
abbrev BU:Type:=L8×L8×Unit
abbrev EK:Type:=Int×List BU×L8×Unit
abbrev Dj:Ty:=.pair (.int .i64) (.pair (.slice DS) (.pair .str .unit))
