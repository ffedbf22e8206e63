/-
  Part of the proof. No condition.
-/
import Derived.Shelf.Strings.Search2
import Derived.Test.YtkgejlchafionaaGreatDoorG3
import Derived.Deep.RegionLaw
import Derived.Lib.SliceRun
import Derived.Lib.AppendZerosOnto
import Derived.Shelf.RegionOpenPlain
import Derived.Lib.Walk
set_option maxRecDepth 1000000
open Go Go.Eng
noncomputable section
namespace Go.Proofs
open Go.Shelf
def Tryz.lays219_ren:Go.Shelf.Ren:=⟨λ|219=>231|217=>260|225=>261|224=>262|267=>263|266=>285|314=>286|n=>n,λ|9=>9|3=>3|4=>4|5=>5|46=>211|146=>312|51=>239|n=>n,λ|1=>3|n=>n⟩
theorem Tryz.lays219:Go.Proofs.Lays.n219 Tryz.prog Tryz.lays219_ren:={
 mixed:=by kernel_rfl
 f217:=Tryz.func260.trans (congrArg some (by kernel_rfl))
 f219:=Tryz.func231.trans (congrArg some (by kernel_rfl))
 f224:=Tryz.func262.trans (congrArg some (by kernel_rfl))
 f225:=Tryz.func261.trans (congrArg some (by kernel_rfl))
 f266:=Tryz.func285.trans (congrArg some (by kernel_rfl))
 f267:=Tryz.func263.trans (congrArg some (by kernel_rfl))
 f314:=Tryz.func286.trans (congrArg some (by kernel_rfl))
 t3:=Tryz.underlying3
 a3:=Tryz.isAgg3
 z3:=Tryz.sizeOf3
 v3:=Tryz.zeroValue3
 t4:=Tryz.underlying4
 a4:=Tryz.isAgg4
 z4:=Tryz.sizeOf4
 v4:=Tryz.zeroValue4
 t5:=Tryz.underlying5
 a5:=Tryz.isAgg5
 z5:=Tryz.sizeOf5
 v5:=Tryz.zeroValue5
 t9:=Tryz.underlying9
 a9:=Tryz.isAgg9
 z9:=Tryz.sizeOf9
 v9:=Tryz.zeroValue9
 t46:=Tryz.underlying211
 a46:=Tryz.isAgg211
 z46:=Tryz.sizeOf211
 v46:=Tryz.zeroValue211
 t51:=Tryz.underlying239
 a51:=Tryz.isAgg239
 z51:=Tryz.sizeOf239
 v51:=Tryz.zeroValue239
 t146:=Tryz.underlying312
 a146:=Tryz.isAgg312
 z146:=Tryz.sizeOf312
 v146:=Tryz.zeroValue312
 g1:=by kernel_rfl}
open Go.RowKit Go.Lib in
theorem Tryz.stringslite_Index (s sub:ByteArray) (m:Int) (w:World) (a:s.size<4294967281) (b:w.cell? ⟨3,0,none⟩=some (.int .i64 m)):
 Calls Tryz.prog 231 #[.string s,.string sub] w λe w'=>e=.returned (.int .i64 (Lib.index s.data.toList sub.data.toList))/\w'=w:=Any.stringslite_Index Tryz.lays219 s sub m w a b
end Go.Proofs
namespace Go.Proofs.YtkgejlchafionaaGreatDoor
open Tryz
def T3 (sum:FuncId->List Value->Option Value) (f:FuncId) (a:List Value):Option Value:=
 bif Nat.beq f 231 then match a with
  |[.string s,.string t]=>bif Nat.blt s.size 60 then some (.int .i64 (Lib.index s.data.toList t.data.toList)) else none
  |_=>none
 else sum f a
theorem Rx {sum:FuncId->List Value->Option Value} {spec:FuncId->Option PSpec} (h:(EE sum spec).OK prog):(EE (T3 sum) spec).OK prog:=
 I8 (λf a v c=>by
  unfold T3 at c;cases g:Nat.beq f 231
  ·rw[g,cond_false] at c;exact h.sum f a v c
  ·rw[g,cond_true] at c;rw[GT g]
   split at c
   ·rename_i s t;cases d:Nat.blt s.size 60
    ·rw[d] at c;cases c
    ·rw[d,cond_true] at c;cases c;have d:s.size<60:=by simpa using d
     refine⟨rfl,rfl,λw j=> ?_⟩;obtain⟨u,l,n⟩:=j.1 (3,[ai .i64]) (by simp[FP]) 0 (ai .i64) rfl;rcases n with⟨o,_⟩|⟨b,i,_⟩|⟨k,m,i,rfl⟩
     ·cases o
     ·cases i
     ·cases i;refine(Tryz.stringslite_Index s t m w (by omega) l).mono ?_;rintro e w' ⟨rfl,rfl⟩;exact⟨rfl,Nat.le_refl _,rfl,rfl,λ_ _=>rfl⟩
   ·cases c) h.spec
open Nice Go.RowKit
theorem CU {fz:Nat->Option (Array Value)} {t:Ty} {ts:List Ty} {x:AA (t::ts)} {l:List Value} (b:t.agg=false) (h:Bc fz (t::ts) x l):∃v r,l=v::r/\Bj fz t x.1 [v]/\Bc fz ts x.2 r:=by
 obtain⟨v,r,e,a,c⟩:=h;rcases a with⟨h,_⟩|⟨_,a⟩
 ·rw[b] at h;cases h
 ·exact⟨v,r,e,a,c⟩
theorem mB {w:World} (a:I6 FP w):∃m,w.cell? ⟨3,0,none⟩=some (.int .i64 m):=by
 obtain⟨u,d,e⟩:=a.1 (3,[ai .i64]) (by simp[FP]) 0 (ai .i64) rfl;rcases e with⟨f,_⟩|⟨b,c,_⟩|⟨k,m,c,g⟩
 ·cases f
 ·cases c
 ·cases c;exact⟨m,by rw[d,g]⟩
theorem pJ:PC 140 Oh:=Nk λfz w args x a g f=>by
 obtain⟨s,p,⟨⟩⟩:=x;simp only[Oh,Bool.and_eq_true,beq_iff_eq] at f;obtain⟨b,rfl⟩:=f;have b:s.length<4294967281:=of_decide_eq_true b;obtain⟨_,_,h,i,c⟩:=CU rfl g;obtain⟨_,j,rfl,k,d⟩:=CU rfl c;obtain rfl:j=[]:=d;cases i;cases k;have l:args=#[.string (bs s),.string (bs [61])]:=Array.toList_inj.1 h
 subst l;obtain⟨m,o⟩:=mB a;refine(Tryz.strings_Cut (bs s) (bs [61]) m w (by rw[Nj];exact b) o).mono ?_;rintro e w' ⟨rfl,n,rfl⟩;rw[EU,EU];exact⟨[.string (bs (Lib.cut s [61]).1),.string (bs (Lib.cut s [61]).2.1),.bool (Lib.cut s [61]).2.2],rfl,⟨_,_,rfl,.inr ⟨rfl,rfl⟩,_,_,rfl,.inr ⟨rfl,rfl⟩,_,_,rfl,.inr ⟨rfl,rfl⟩,rfl⟩,⟨Nat.le_refl _,rfl,rfl,λ_ _=>rfl⟩⟩
theorem jf:PC 139 JL:=by
 intro fz w args x g n z v;obtain⟨s,p,⟨⟩⟩:=x;simp only[JL,Bool.and_eq_true,beq_iff_eq] at v;obtain⟨o,rfl⟩:=v;have o:s.length<4294967281:=of_decide_eq_true o;obtain⟨_,_,A,B,q⟩:=CU rfl z;obtain⟨_,C,rfl,D,r⟩:=CU rfl q;obtain rfl:C=[]:=r;cases B;cases D;have E:args=#[.string (bs s),.string (bs [38])]:=Array.toList_inj.1 A
 subst E;obtain⟨m,F⟩:=mB n;refine(Tryz.strings_Split (bs s) (bs [38]) m w (by rw[Nj];exact o) F (Nat.le_refl 1)).mono ?_;rintro e w' ⟨rfl,rfl⟩;have hd:=Lib.splitB_data (bs [38]) 0 (Lib.countB (bs s) (bs [38])) (bs s);have t:=Lib.splitB_all (bs [38]) (Nat.le_refl 1) 0 (Lib.countB (bs s) (bs [38])) (bs s) rfl
 have u:(Lib.splitB (bs [38]) 0 (Lib.countB (bs s) (bs [38])) (bs s)).map (·.data.toList)=Cr s:=hd;generalize Lib.splitB (bs [38]) 0 (Lib.countB (bs s) (bs [38])) (bs s)=L at t u;generalize Lib.countB (bs s) (bs [38])=k at t;have a:(Cr s).length=k+1:=by rw[<-u,List.length_map];exact t
 have j:∀b c,fz b=some c->b<w.heap.size:=λb c f=>by
  obtain⟨e,fr,h⟩:=g b c f;exact(Array.getElem?_eq_some_iff.1 h).1
 have d:∀b,b<w.heap.size->(w.alloc (.cells (L.map Value.string).toArray 9)).heap[b]?=w.heap[b]?:=λb f=>by
  show(w.heap.push _)[b]?=_;rw[Array.getElem?_push,if_neg (by omega)]
 refine⟨[.slice (some ⟨w.heap.size,0,none⟩) (k+1) (k+1)],λb=>if b=w.heap.size then some (L.map Value.string).toArray else fz b,rfl,λb c h=> ?_,λb c h=> ?_,λb c h=> ?_,?_,?_⟩
 ·have:=j b c h;simp only[if_neg (by omega:¬b=w.heap.size)];exact h
 ·by_cases f:b=w.heap.size
  ·subst f;simp only[if_true,Option.some.injEq] at h;subst h;exact⟨_,_,by show(w.heap.push _)[w.heap.size]?=_;rw[Array.getElem?_push,if_pos rfl]⟩
  ·simp only[if_neg f] at h;obtain⟨e,fr,G⟩:=g b c h;exact⟨e,fr,by rw[d b (j b c h)];exact G⟩
 ·by_cases f:b=w.heap.size
  ·exact .inr (by omega)
  ·simp only[if_neg f] at h;exact .inl h
 ·refine⟨_,_,rfl,.inr ⟨rfl,_,rfl,.inr ⟨w.heap.size,0,k+1,(L.map Value.string).toArray,?_,by simp,?_,?_,?_⟩⟩,rfl⟩
  ·show _=Value.slice _ (Cr s).length _;rw[a]
  ·show 0+(Cr s).length*1<=_;rw[a];simp;omega
  ·show(Cr s).length<=_;rw[a];exact Nat.le_refl _
  ·intro i x l;have l:(Cr s)[i]?=some x:=l;rw[<-u,List.getElem?_map] at l;obtain⟨y,H,rfl⟩:=Option.map_eq_some_iff.1 l;show((L.map Value.string).toArray.toList.drop (0+i*1)).take 1=[.string (bs y.data.toList)];have:(L.map Value.string)[i]?=some (.string y):=by rw[List.getElem?_map,H];rfl
   rw[show 0+i*1=i by omega];show((L.map Value.string).drop i).take 1=_;obtain⟨I,e⟩:=List.getElem?_eq_some_iff.1 this;rw[List.drop_eq_getElem_cons I,e];have:bs y.data.toList=y:=Iy y;rw[this];rfl
 ·exact⟨by show w.heap.size<=(w.heap.push _).size;simp,rfl,rfl,d⟩
open Nice Go.RowKit
theorem dy {x:Nat} (h:BH x=true) (w:World):(callFunc 270 #[.float .f64 x]).run prog w=.ok (.value (.float .f64 (ER x))) w:=by
 rw[run_callFunc_extern func270 (by kernel_rfl) (by kernel_rfl) (by kernel_rfl) (by kernel_rfl:Extern.find f270=some (Extern.MathFloor.toIntegral "math.archTrunc" .zero))];have e:Extern.MathFloor.toIntegral "math.archTrunc" .zero #[.float .f64 x]=Pure.pure (.float .f64 (ER x)):=by
  show(match FloatKind.f64.decode x with
   | .nan s t=>_
   |d=>_)=_
  unfold BH at h;unfold ER
  split
  ·rename_i hd;rw[hd] at h;cases h
  ·rfl
 rw[e];rfl
theorem jg:PC 237 UY:=Nk λfz w args x b c d=>by
 obtain⟨x,⟨⟩⟩:=x;obtain⟨_,e,f,g,a⟩:=CU rfl c;obtain rfl:e=[]:=a;cases g;have h:args=#[.float .f64 x]:=Array.toList_inj.1 f;subst h
 go_enter func237,ntmps237
 go_wp2
 rw[dy d]
 go_wp2
 go_ret
 exact⟨[.float .f64 (ER x)],rfl,⟨_,_,rfl,.inr ⟨rfl,rfl⟩,rfl⟩,⟨Nat.le_refl _,rfl,rfl,λ_ _=>rfl⟩⟩
theorem YL:PC 195 JH:=(AN (AG (l:=[(237,UY)]) ⟨jg,trivial⟩) AM func195 (by kernel_rfl) (by decide)).nice λ⟨x,a,b,()⟩ h=>ABg x a b h
theorem T4:PC 149 Fx:=(AN (AG (l:=[(195,JH)]) ⟨YL,trivial⟩) AM func149 (by kernel_rfl) (by decide)).nice λ⟨z,()⟩ h=>kY z h
theorem YM:PC 101 JI:=(AN (AG (l:=[(149,Fx)]) ⟨T4,trivial⟩) AM func101 (by kernel_rfl) (by decide)).nice λ⟨s,()⟩ _=>ka s
theorem jh:PC 27 Wy:=(AN (AG (l:=[]) trivial) AM func27 (by kernel_rfl) (by decide)).nice λ⟨s,()⟩ _=>kc s
theorem pK:PC 269 KH:=(AN (AG (l:=[]) trivial) AM func269 (by kernel_rfl) (by decide)).nice λ⟨s,p,()⟩ h=>ng s p h
theorem pL:PC 236 KJ:=(AN (AG (l:=[(269,KH)]) ⟨pK,trivial⟩) AM func236 (by kernel_rfl) (by decide)).nice λ⟨s,p,()⟩ h=>nh s p h
theorem pM:PC 187 Ub:=(AN (AG (l:=[]) trivial) AM func187 (by kernel_rfl) (by decide)).nice λ⟨l,x,()⟩ h=>ni l x h
theorem pN:PC 141 QZ:=(AN (AG (l:=[(187,Ub)]) ⟨pM,trivial⟩) AM func141 (by kernel_rfl) (by decide)).nice λ⟨l,x,()⟩ h=>nk l x h
theorem dz:PC 143 Oi:=(AN (AG (l:=[(191,Oa),(193,EW),(236,KJ),(101,JI)]) ⟨nz,tJ,pL,YM,trivial⟩) AM func143 (by kernel_rfl) (by decide)).nice λ⟨⟨m,p,q,a,b,()⟩,()⟩ h=>b8 m p q a b h
theorem J2:PC 95 CE:=(AN (AG (l:=[(100,Az),(142,PH),(143,Oi),(193,EW)]) ⟨M8,bz,dz,tJ,trivial⟩) AM func95 (by kernel_rfl) (by decide)).nice λ⟨a,⟨m,p,q,c,b,()⟩,()⟩ h=>b9 a m p q c b h
theorem J3:PC 94 CF:=(AN (AG (l:=[(100,Az),(139,JL),(140,Oh),(141,QZ),(142,PH)]) ⟨M8,jf,pJ,pN,bz,trivial⟩) AM func94 (by kernel_rfl) (by decide)).nice λ⟨a,q,()⟩ h=>cC a q h
theorem ABU {f:FuncId} {ts rs:List Ty} {pre:AA ts->Bool} {g:AA ts->AA rs} (h:∀x,pre x=true->∃e,PC f ⟨ts,rs,e,g⟩/\e x=true):PC f ⟨ts,rs,pre,g⟩:=by
 intro fz w args x a b c d;obtain⟨e,i,j⟩:=h x d;exact i fz w args x a b c j
def ud (a:L8->Bool):PSpec:=⟨[BD],[Ah,.int .i64],λx=>LU x.1&&a x.1.1,λx=>((F5 x.1).1,(F5 x.1).2,())⟩
theorem ABV {f:FuncId} (d:PC f (ud λm=>m==CL)) (e:PC f (ud λm=>m==Aq)) (h:PC f (ud λm=>m==Bq)) (i:PC f (ud λm=>m==Bl)) (j:PC f (ud λm=> !(m==CL)&&(!(m==Aq)&&(!(m==Bq)&& !(m==Bl))))):PC f xK:=by
 refine ABU (ts:=[BD]) (rs:=[Ah,.int .i64]) (pre:=λx=>LU x.1) (g:=λx=>((F5 x.1).1,(F5 x.1).2,())) λ⟨⟨m,p,q,c,b,()⟩,()⟩ a=> ?_
 have a:LU (m,p,q,c,b,())=true:=a;cases c0:m==CL
 ·cases c1:m==Aq
  ·cases c2:m==Bq
   ·cases c3:m==Bl
    ·exact⟨_,j,by show(LU (m,p,q,c,b,())&&(!(m==CL)&&(!(m==Aq)&&(!(m==Bq)&& !(m==Bl)))))=true;rw[a,c0,c1,c2,c3];rfl⟩
    ·exact⟨_,i,by show(LU (m,p,q,c,b,())&&m==Bl)=true;rw[a,c3];rfl⟩
   ·exact⟨_,h,by show(LU (m,p,q,c,b,())&&m==Bq)=true;rw[a,c2];rfl⟩
  ·exact⟨_,e,by show(LU (m,p,q,c,b,())&&m==Aq)=true;rw[a,c1];rfl⟩
 ·exact⟨_,d,by show(LU (m,p,q,c,b,())&&m==CL)=true;rw[a,c0];rfl⟩
theorem MU {m p q:L8} {a:Cg} {b:L8} {w:L8} (h:(LU (m,p,q,a,b,())&&m==w)=true):m=w/\LU (w,p,q,a,b,())=true:=by
 rw[Bool.and_eq_true,beq_iff_eq] at h;obtain⟨h,rfl⟩:=h;exact⟨rfl,h⟩
theorem ji {m p q:L8} {a:Cg} {b:L8} (h:(LU (m,p,q,a,b,())&&(!(m==CL)&&(!(m==Aq)&&(!(m==Bq)&& !(m==Bl)))))=true):LU (m,p,q,a,b,())=true/\(m==CL)=false/\(m==Aq)=false/\(m==Bq)=false/\(m==Bl)=false:=by
 rw[Bool.and_eq_true,Bool.and_eq_true,Bool.and_eq_true,Bool.and_eq_true,Bool.not_eq_true',Bool.not_eq_true',Bool.not_eq_true',Bool.not_eq_true'] at h;exact⟨h.1,h.2.1,h.2.2.1,h.2.2.2.1,h.2.2.2.2⟩
theorem pO:PC 51 xK:=ABV
 ((AN (AG (l:=[(138,A0),(94,CF),(95,CE)]) ⟨Ve,J3,J2,trivial⟩) AM func51 (by kernel_rfl) (by decide)).nice λ⟨⟨m,p,q,a,b,()⟩,()⟩ h=>by obtain⟨rfl,k⟩:=MU h;exact cD p q a b k)
 ((AN (AG (l:=[(138,A0),(94,CF),(95,CE)]) ⟨Ve,J3,J2,trivial⟩) AM func51 (by kernel_rfl) (by decide)).nice λ⟨⟨m,p,q,a,b,()⟩,()⟩ h=>by obtain⟨rfl,k⟩:=MU h;exact ZD p q a b k)
 ((AN (AG (l:=[(138,A0),(94,CF),(95,CE)]) ⟨Ve,J3,J2,trivial⟩) AM func51 (by kernel_rfl) (by decide)).nice λ⟨⟨m,p,q,a,b,()⟩,()⟩ h=>by obtain⟨rfl,k⟩:=MU h;exact cE p q a b k)
 ((AN (AG (l:=[(138,A0),(94,CF),(95,CE)]) ⟨Ve,J3,J2,trivial⟩) AM func51 (by kernel_rfl) (by decide)).nice λ⟨⟨m,p,q,a,b,()⟩,()⟩ h=>by obtain⟨rfl,k⟩:=MU h;exact cF p q a b k)
 ((AN (AG (l:=[(138,A0),(94,kR [Ah,.str] [Ah,.bool]),(95,kR [Ah,BD] [Ah,.bool])]) ⟨Ve,tI _ _ _,tI _ _ _,trivial⟩) AM func51 (by kernel_rfl) (by decide)).nice λ⟨⟨m,p,q,a,b,()⟩,()⟩ h=>by obtain⟨k,c,d,e,f⟩:=ji h;exact nm m p q a b k c d e f)
open Nice Go.RowKit Go.Sort
theorem QH:Ep=Lib.pow10Tab.map λz=>Value.int .u64 z:=by kernel_rfl
theorem ABW:Tryz.prog.globalNamed "internal/strconv.uint64pow10" =some 0:=by kernel_rfl
theorem ABX {w:World} (d:I6 FP w):Lib.TabIs prog w "internal/strconv.uint64pow10" .u64 Lib.pow10Tab:=by
 obtain⟨c,e,fr,j,n⟩:=d.2 (0,Ep) (by simp[FP]);unfold Lib.TabIs World.var?;rw[ABW];simp only[Option.bind_some,j];congr 1;rw[<-QH];apply Array.ext
 ·simpa using n
 ·intro i o p;have f:i<Ep.length:=by simpa using p
  obtain⟨u,l,q⟩:=d.1 (0,Ep) (by simp[FP]) i Ep[i] (List.getElem?_eq_getElem f);have a:∃z,Ep[i]=Value.int .u64 z:=by
   have r:Ep[i]∈Lib.pow10Tab.map λz=>Value.int .u64 z:=by rw[<-QH];exact List.getElem_mem f
   obtain⟨z,_,a⟩:=List.mem_map.1 r;exact⟨z,a.symm⟩
  obtain⟨z,a⟩:=a;have e:u=Ep[i]:=by
   rcases q with⟨_,h⟩|⟨b,g,_⟩|⟨k,m,g,_⟩
   ·exact h
   ·rw[a] at g;cases g
   ·rw[a] at g;cases g
  simp only[World.cell?,j] at l;have:c[i]?=some u:=by simpa using l
  rw[Array.getElem?_eq_getElem o] at this;rw[Option.some.inj this,e];simp
theorem K4 (w:World) (k:Nat) (os:Array Obj):Bx w (grow (w.drewN k) os):=by
 refine⟨?_,rfl,rfl,λb a=> ?_⟩
 ·show w.heap.size<=(w.heap++os).size;simp
 ·show(w.heap++os)[b]?=w.heap[b]?;rw[Array.getElem?_append_left a]
theorem J4 {n:Int}:BR n=true↔ -9223372036854775808<=n/\n<=9223372036854775807:=by
 unfold BR;rw[Bool.and_eq_true,decide_eq_true_eq,decide_eq_true_eq]
theorem ABY:PC 50 Tf:=Nk λfz w args x a c d=>by
 obtain⟨n,⟨⟩⟩:=x;obtain⟨f,g⟩:=J4.1 d;obtain⟨_,h,i,g1,b⟩:=CU rfl c;obtain rfl:h=[]:=b;cases g1;have j:args=#[.int .i64 n]:=Array.toList_inj.1 i;subst j;refine(Tryz.strconv_Itoa n f g w (ABX a)).mono ?_;rintro e w' ⟨rfl,k,os,rfl⟩;exact⟨[.string (bs (Lib.itoa n))],rfl,⟨_,_,rfl,.inr ⟨rfl,rfl⟩,rfl⟩,K4 _ _ _⟩
theorem ue:PC 48 n5:=Nk λfz w args x c g b=>by
 obtain⟨n,m,⟨⟩⟩:=x;have a:(BR n&&m==(10:Int))=true:=b;clear b;rw[Bool.and_eq_true,beq_iff_eq] at a;obtain⟨b,rfl⟩:=a;obtain⟨h,i⟩:=J4.1 b;obtain⟨_,_,j,g1,d⟩:=CU rfl g;obtain⟨_,l,rfl,o,f⟩:=CU rfl d;obtain rfl:l=[]:=f;cases g1;cases o;have p:args=#[.int .i64 n,.int .i64 10]:=Array.toList_inj.1 j
 subst p;refine(Tryz.strconv_FormatInt_10 n h i w (ABX c)).mono ?_;rintro e w' ⟨rfl,k,os,rfl⟩;exact⟨[.string (bs (Lib.itoa n))],rfl,⟨_,_,rfl,.inr ⟨rfl,rfl⟩,rfl⟩,K4 _ _ _⟩
theorem pP:PC 91 Tg:=by
 intro fz w args x i G H m;obtain⟨l,s,⟨⟩⟩:=x;have m:Ic l s=true:=m;unfold Ic at m;rw[Bool.and_eq_true,decide_eq_true_eq,decide_eq_true_eq] at m;obtain⟨_,_,D,g1,t⟩:=CU rfl H;obtain⟨_,I,rfl,J,u⟩:=CU rfl t;obtain rfl:I=[]:=u;cases J;have p:∀b c,fz b=some c->b<w.heap.size:=λb c n=>by
  obtain⟨e,fr,h⟩:=i b c n;exact(Array.getElem?_eq_some_iff.1 h).1
 have fin:∀w',Bx w w'->∃vs a,(Ending.returned (.string (bs (Lib.join l s)))=.returned (De vs))/\(∀b c,fz b=some c->a b=some c)/\Bs a w'/\(∀b c,a b=some c->fz b=some c\/w.heap.size<=b)/\Bc a Tg.rs (Tg.g (l,s,())) vs/\Bx w w':=λw' E=>
  ⟨[.string (bs (Lib.join l s))],fz,rfl,λ_ _ h=>h,i.keep λb c n=>E.2.2.2 b (p b c n),λ_ _ h=>.inl h,⟨_,_,rfl,.inr ⟨rfl,rfl⟩,rfl⟩,E⟩
 obtain⟨sv,v,k⟩:=g1;cases v;rcases k with⟨⟨q,c,rfl⟩,A⟩|⟨b,o,c,d,rfl,n,K,L,M⟩
 ·have A:l=[]:=A;subst A;have B:args=#[.slice q 0 c,.string (bs s)]:=Array.toList_inj.1 D;subst B;refine(Tryz.strings_Join_none q c (bs s) w).mono ?_;rintro e w' ⟨rfl,rfl⟩;exact fin w' ⟨Nat.le_refl _,rfl,rfl,λ_ _=>rfl⟩
 ·have B:args=#[.slice (some ⟨b,o,none⟩) l.length c,.string (bs s)]:=Array.toList_inj.1 D;subst B;obtain⟨Q,fr,N⟩:=i b d n;have f:(l.map bs).map (·.data.toList)=l:=by
   rw[List.map_map];have:((λx:ByteArray=>x.data.toList)∘bs)=id:=by funext y;exact EU y
   rw[this,List.map_id]
  have:=Tryz.strings_Join b o c (l.map bs) (bs s) w (λj x F=>by
   rw[List.getElem?_map] at F;obtain⟨y,O,rfl⟩:=Option.map_eq_some_iff.1 F;have r:=M j y O;have r:((d.toList.drop (o+j*1)).take 1)=[.string (bs y)]:=r;rw[Nat.mul_one] at r;have P:d.toList[o+j]?=some (.string (bs y)):=by
    have:=congrArg (λz=>z[0]?) r;simpa[List.getElem?_take,List.getElem?_drop] using this
   show World.cell? w ⟨b,o+j,none⟩=_;simp only[World.cell?,N];simpa using P) (p b d n) (by rw[List.length_map];exact m.1) (by rw[List.length_map];exact L) (by rw[f,EU];exact m.2)
  rw[List.length_map,f,EU] at this;refine this.mono ?_;rintro e w' ⟨rfl,C⟩;exact fin w' (E9 C)
end Go.Proofs.YtkgejlchafionaaGreatDoor
namespace Nice
def xZ (k:Int) (l:List (L8)):Option (AA [.str]):=bif k==(5:Int) then gd [Ic (l++[Tc]) [38]] (some (ABQ (l++[Tc]) [38],())) else gd [Ic l [38]] (some (ABQ l [38],()))
def xa (m k:Int) (l:List (L8)):Option (AA [.str]):=bif m !=(20:Int) then gd [decide (4+(DV m).length<=1099511627776),BR m] (xZ k (l++[qn++DV m])) else xZ k l
def xb (f:L8) (m k:Int) (l:List (L8)):Option (AA [.str]):=bif !f==[] then gd [decide (6+f.length<=1099511627776)] (xa m k (l++[qm++f])) else xa m k l
def y1 (p f:L8) (m k:Int):Option (AA [.str]):=bif !p==[] then gd [decide (7+p.length<=1099511627776)] (xb f m k ([]++[ql++p])) else xb f m k []
def Dn:Option (AA [BD,.bool]):=some (n4,false,())
def xc (x a:Ak):Bool:=x.1==a.1&&(x.2.1==a.2.1&&(x.2.2.1==a.2.2.1&&(x.2.2.2.1==a.2.2.2.1&&(x.2.2.2.2.1==a.2.2.2.2.1&&(x.2.2.2.2.2.1==a.2.2.2.2.2.1&&(x.2.2.2.2.2.2.1==a.2.2.2.2.2.2.1&&(x.2.2.2.2.2.2.2.1==a.2.2.2.2.2.2.2.1&&(x.2.2.2.2.2.2.2.2.1==a.2.2.2.2.2.2.2.2.1&&(x.2.2.2.2.2.2.2.2.2.1==a.2.2.2.2.2.2.2.2.2.1&&true)))))))))
def ug (a:Ak) (g:List Bool) (r:JK):Option (AA [BD,.bool]):=
 gd (LU r::g) (bif (F5 r).2 !=(0:Int) then Dn else bif !xc (F5 r).1 a then Dn else bif decide ((a.2.2.2.1.length:Int)>(300:Int)) then Dn else some (r,true,()))
def uh (a:Ak) (b:L8) (mk:Cg->JK) (c:Cg):Option (AA [BD,.bool]):=
 bif !b==[] then ug a [BR (b.length:Int)] (mk (c++[(xL,DV (b.length:Int),())])) else ug a [] (mk c)
def pQ (a:Ak) (c:Int) (t b:L8) (mk:Cg->JK):Option (AA [BD,.bool]):=
 bif c==(1:Int) then uh a b mk [(FT,[42],())]
 else bif c==(2:Int) then gd [decide (([34]++t).length+1<=1099511627776),decide (1+t.length<=1099511627776)] (uh a b mk [(FU,[34]++t++[34],())])
 else uh a b mk []
def xd (a:Ak) (k:Int) (key:L8) (c:Int) (t b e q:L8):Option (AA [BD,.bool]):=
 bif k==(2:Int) then pQ a c t b λd=>(Bq,Gc++key,q,d,b,())
 else bif k==(3:Int) then pQ a c t b λd=>(Bl,Gc++key,q,d,b,())
 else bif k==(4:Int) then gd [Lz a] (pQ a c t b λd=>(e,oW,Kw a,d,b,()))
 else bif k==(5:Int) then gd [Lz a] (pQ a c t b λd=>(e,oW,Kw a,d,b,()))
 else pQ a c t b λd=>(e,Gc++key,q,d,b,())
def xe (a:Ak) (k:Int) (key:L8) (v c:Int) (t b d:L8):Option (AA [BD,.bool]):=
 bif v !=(0:Int) then gd [decide (8+(DV v).length<=1099511627776),BR v&&(10:Int)==(10:Int)] (xd a k key c t b d (GY++DV v)) else xd a k key c t b d []
def y2 (k:Int) (key:L8) (v:Int) (b:L8) (c:Int) (t p f:L8) (m:Int) (a:Bool):Option (AA [BD,.bool]):=
 gd [decide (3+key.length<=1099511627776)] (bif a then xe (k,key,v,b,c,t,p,f,m,a,()) k key v c t b Aq else xe (k,key,v,b,c,t,p,f,m,a,()) k key v c t b CL)
end Nice
namespace Go.Proofs.YtkgejlchafionaaGreatDoor
open Tryz
open Nice
def ABZ (x:AA [Ah]):Option (AA [.str]):=fO prog (AL [(50,Tf),(91,Tg)]) (AC []) f49 [Ah] [.str] x
theorem pR (k:Int) (key:L8) (v:Int) (b:L8) (c:Int) (t p f:L8) (m:Int) (a:Bool):ABZ ((k,key,v,b,c,t,p,f,m,a,()),())=y1 p f m k:=by kernel_rfl
def T5 (x:AA [Ah]):Option (AA [BD,.bool]):=fO prog (AL [(51,xK),(48,n5),(49,WD),(50,Tf)]) (AC []) f28 [Ah] [BD,.bool] x
theorem eA (k:Int) (key:L8) (v:Int) (b:L8) (c:Int) (t p f:L8) (m:Int) (a:Bool):T5 ((k,key,v,b,c,t,p,f,m,a,()),())=y2 k key v b c t p f m a:=by kernel_rfl
def mC (x:AA [Ah]):Option (AA [.bool]):=fO prog (AL [(28,Nu)]) (AC []) f12 [Ah] [.bool] x
theorem ui (k:Int) (key:L8) (v:Int) (b:L8) (c:Int) (t p f:L8) (m:Int) (a:Bool):mC ((k,key,v,b,c,t,p,f,m,a,()),())=
 (bif (EC (k,key,v,b,c,t,p,f,m,a,())).2 then gd [ED (k,key,v,b,c,t,p,f,m,a,())] (some (true,())) else gd [ED (k,key,v,b,c,t,p,f,m,a,())] (some (false,()))):=by kernel_rfl
end Go.Proofs.YtkgejlchafionaaGreatDoor
namespace Nice
theorem yT {α:Type} (a b:α):(bif true then a else b)=a:=Eq.trans (cond_true a b) rfl
theorem yF {α:Type} (a b:α):(bif false then a else b)=b:=Eq.trans (cond_false a b) rfl
theorem yG {α:Type} (r:Option α):gd [] r=r:=Eq.trans BM rfl
theorem Ry {n:Int} (h:BR n=true):(Lib.itoa n).length<=21:=by
 unfold BR at h;rw[Bool.and_eq_true,decide_eq_true_eq,decide_eq_true_eq] at h;have key:∀u:Nat,u<10^20->(Lib.decDigits u).length<=20:=by
  intro u a;have:=cw (k:=19) (u:=u) (by simpa using a);rw[En] at this;exact this
 unfold Lib.itoa
 split
 ·have:=key n.natAbs (by omega);simp only[List.length_cons];omega
 ·have:=key n.toNat (by omega);omega
theorem JA {s:L8} (h:gw s=true):s.length<=1000:=of_decide_eq_true h
theorem QI (s:L8):∀(l:List (L8)) (n:Nat),(∀x,x∈l->x.length<=n)->(Lib.joinTail s l).length<=l.length*(s.length+n)
 |[],_,_=>by simp[Lib.joinTail]
 |x::r,n,h=>by
  have:=QI s r n λy a=>h y (List.mem_cons_of_mem _ a)
  have b:=h x (List.mem_cons_self ..);have e:(Lib.joinTail s (x::r)).length=s.length+x.length+(Lib.joinTail s r).length:=by
   show((s++x)++Lib.joinTail s r).length=_;rw[List.length_append,List.length_append]
  rw[e,List.length_cons,Nat.add_mul];omega
theorem eB (s:L8) (l:List (L8)) (n:Nat) (h:∀x,x∈l->x.length<=n):(Lib.join l s).length<=l.length*(s.length+n):=by
 cases l with
 |nil=>simp[Lib.join]
 |cons x r=>
  have b:=h x (List.mem_cons_self ..);have:=QI s r n λy a=>h y (List.mem_cons_of_mem _ a)
  rw[Lib.join_cons,List.length_append,List.length_cons,Nat.add_mul];omega
theorem WX {p f:L8} {m k:Int} (c:p.length<=1000) (d:f.length<=1000) (a:BR m=true):(CH p f m k).length<=4/\∀x,x∈CH p f m k->x.length<=1010:=by
 have e:=Ry a;refine⟨?_,λx b=> ?_⟩
 ·unfold CH cd WA Rn FA;cases p==[]<;>cases f==[]<;>cases m==20<;>cases k==5<;>simp
 ·rcases WG b with rfl|rfl|rfl|rfl
  ·rw[List.length_append];show 7+_<=_;omega
  ·rw[List.length_append];show 6+_<=_;omega
  ·rw[List.length_append];show 4+_<=_;omega
  ·show 10<=1010;omega
theorem YN {p f:L8} {m k:Int} (a:p.length<=1000) (b:f.length<=1000) (c:BR m=true):Ic (CH p f m k) [38]=true/\(Lib.join (CH p f m k) [38]).length<=4044:=by
 obtain⟨d,e⟩:=WX (k:=k) a b c;have g:=eB [38] _ 1010 e;have h:(CH p f m k).length*([38].length+1010)<=4*1011:=Nat.mul_le_mul_right 1011 d;refine⟨?_,by omega⟩;unfold Ic;rw[Bool.and_eq_true,decide_eq_true_eq,decide_eq_true_eq];omega
theorem jj {p f:L8} {m k:Int} (i:p.length<=1000) (j:f.length<=1000) (c:BR m=true):y1 p f m k=some (Lib.join (CH p f m k) [38],()):=by
 obtain⟨b, -⟩:=YN (k:=k) i j c;have n:=Ry c;have d:∀l:List (L8),Ic (l++FA k) [38]=true->xZ k l=some (Lib.join (l++FA k) [38],()):=by
  intro l h;unfold xZ;unfold FA at h⊢;cases a:k==5
  ·rw[a,yF,List.append_nil] at h;rw[yF,Ag h,yG,yF,List.append_nil];rfl
  ·rw[a,yT] at h;rw[yT,Ag h,yG,yT];rfl
 have e:∀l:List (L8),Ic (l++(Rn m++FA k)) [38]=true->xa m k l=some (Lib.join (l++(Rn m++FA k)) [38],()):=by
  intro l h;unfold xa bne;unfold Rn at h⊢;cases a:m==20
  ·rw[a,yF,<-List.append_assoc] at h;have:=d _ h;rw[Bool.not_false,yT,yF,AP (show 4+(DV m).length<=1099511627776 by show 4+(Lib.itoa m).length<=_;omega),Ag c,yG,<-List.append_assoc];exact this
  ·rw[a,yT,List.nil_append] at h;rw[Bool.not_true,yF,yT,List.nil_append];exact d _ h
 have g:∀l:List (L8),Ic (l++(WA f++(Rn m++FA k))) [38]=true->xb f m k l=some (Lib.join (l++(WA f++(Rn m++FA k))) [38],()):=by
  intro l h;unfold xb;unfold WA at h⊢;cases a:f==[]
  ·rw[a,yF,<-List.append_assoc] at h;rw[Bool.not_false,yT,yF,AP (by omega),yG,<-List.append_assoc];exact e _ h
  ·rw[a,yT,List.nil_append] at h;rw[Bool.not_true,yF,yT,List.nil_append];exact e _ h
 unfold y1;unfold CH at b⊢;unfold cd at b⊢;cases a:p==[]
 ·rw[a,yF] at b;rw[Bool.not_false,yT,yF,AP (by omega),yG];exact g _ b
 ·rw[a,yT,List.nil_append] at b;rw[Bool.not_true,yF,yT,List.nil_append];exact g [] b
def WY (a:Ak) (r:JK):Option (AA [BD,.bool]):=some ((cg a r).1,(cg a r).2,())
theorem pS (x a:Ak):xc x a=ln x a:=by
 unfold xc ln;rw[Bool.and_true]
theorem mD {a:Ak} {g:List Bool} {r:JK} (h:LU r=true) (d:g=[]\/∃b,g=[b]/\b=true):ug a g r=WY a r:=by
 have e:ug a g r=(bif (F5 r).2 !=(0:Int) then Dn else bif !xc (F5 r).1 a then Dn else bif decide ((a.2.2.2.1.length:Int)>(300:Int)) then Dn else some (r,true,())):=by
  unfold ug;rcases d with rfl|⟨b,rfl,rfl⟩
  ·rw[Ag h,yG]
  ·rw[Ag h,Ag rfl,yG]
 rw[e,pS];unfold WY cg Dn bne;cases(F5 r).2==0
 ·rfl
 ·cases ln (F5 r).1 a
  ·rfl
  ·by_cases c:(a.2.2.2.1.length:Int)<=300
   ·rw[decide_eq_true c,decide_eq_false (by omega)];rfl
   ·rw[decide_eq_false c,decide_eq_true (by omega)];rfl
theorem jk {b:L8} (h:b.length<=1000):BR (b.length:Int)=true:=by
 unfold BR;rw[Bool.and_eq_true,decide_eq_true_eq,decide_eq_true_eq];omega
theorem eC {a:Ak} {b:L8} {mk:Cg->JK} {c:Cg} (e:b.length<=1000) (h:LU (mk (c++MQ b))=true):uh a b mk c=WY a (mk (c++MQ b)):=by
 unfold uh;unfold MQ at h⊢;cases d:b==[]
 ·rw[d,yF] at h;rw[Bool.not_false,yT,yF];exact mD h (.inr ⟨_,rfl,jk e⟩)
 ·rw[d,yT,List.append_nil] at h;rw[Bool.not_true,yF,yT,List.append_nil];exact mD h (.inl rfl)
theorem T6 {a:Ak} {c:Int} {t b:L8} {mk:Cg->JK} (g:t.length<=1000) (d:b.length<=1000) (h:LU (mk (Td c t++MQ b))=true):pQ a c t b mk=WY a (mk (Td c t++MQ b)):=by
 unfold pQ;unfold Td at h⊢;cases e:c==1
 ·rw[e,yF] at h;rw[yF,yF];cases f:c==2
  ·rw[f,yF] at h;rw[yF,yF];exact eC d h
  ·rw[f,yT] at h;rw[yT,yT,AP (by rw[List.length_append];show 1+_+1<=_;omega),AP (by omega),yG];exact eC d h
 ·rw[e,yT] at h;rw[yT,yT];exact eC d h
theorem WZ {c:Int} {t b:L8} (i:t.length<=1000):B0 (Td c t++MQ b)=true:=by
 have j:(An (Td c t++MQ b) FU).1.length<=1002:=by
  unfold Td;cases c==1
  ·cases c==2
   ·rw[yF,yF,List.nil_append,Rq];exact Nat.zero_le _
   ·rw[yF,yT,List.cons_append,List.nil_append];have e:An ((FU,[34]++t++[34],())::MQ b) FU=([34]++t++[34],true):=by
     show(bif Ce FU==Ce FU then _ else _)=_;rw[tO,yT]
    rw[e];show([34]++t++[34]).length<=1002;simp only[List.length_append,List.length_cons,List.length_nil];omega
  ·rw[yT,List.cons_append,List.nil_append];have e:An ((FT,[42],())::MQ b) FU=An (MQ b) FU:=by
    show(bif Ce FT==Ce FU then _ else _)=_;rw[tN,yF]
   rw[e,Rq];exact Nat.zero_le _
 have f:∀h,h∈Td c t++MQ b->EP h.1=true:=by
  intro h a;rcases List.mem_append.1 a with a|a
  ·unfold Td at a
   revert a
   cases c==1
   ·cases c==2
    ·intro a;cases a
    ·intro a;rw[List.mem_singleton.1 a];rfl
   ·intro a;rw[List.mem_singleton.1 a];rfl
  ·unfold MQ at a
   revert a
   cases b==[]
   ·intro a;rw[List.mem_singleton.1 a];rfl
   ·intro a;cases a
 have k:(Td c t++MQ b).length<=2:=by
  unfold Td MQ;cases c==1<;>cases c==2<;>cases b==[]<;>first|exact Nat.zero_le _|exact Nat.le_succ 1|exact Nat.le_refl 2
 have d:∀n,EP n=true->D1 (Td c t++MQ b) n=true:=by
  intro n g;unfold D1;rw[g,decide_eq_true (by omega),List.all_eq_true.2 f];rfl
 unfold B0;rw[d FT rfl,d FU rfl];exact decide_eq_true (by omega)
theorem J5 {m p q:L8} {c:Int} {t b a:L8} (d:t.length<=1000) (e:p.length<=5000) (f:q.length<=5000):LU (m,p,q,Td c t++MQ b,a,())=true:=by
 unfold LU;dsimp only;rw[WZ d,show Cs q=true from decide_eq_true (by omega)];exact decide_eq_true (by omega)
theorem eD {k:Int} {key:L8} {v:Int} {b:L8} {c:Int} {t p f:L8} {m:Int} {d:Bool} (h:ED (k,key,v,b,c,t,p,f,m,d,())=true):
  key.length<=1000/\b.length<=1000/\t.length<=1000/\BR v=true/\p.length<=1000/\f.length<=1000/\BR m=true/\Lz (k,key,v,b,c,t,p,f,m,d,())=true:=by
 unfold ED at h;simp only[Bool.and_eq_true] at h;obtain⟨⟨e,g,i,j⟩,a⟩:=h;have l:=a;unfold Lz at a;simp only[Bool.and_eq_true] at a;exact⟨JA e,JA g,JA i,j,JA a.1,JA a.2.1,a.2.2,l⟩
theorem aM {k:Int} {key:L8} {v:Int} {b:L8} {c:Int} {t p f:L8} {m:Int} {a:Bool} (h:ED (k,key,v,b,c,t,p,f,m,a,())=true):
  y2 k key v b c t p f m a=WY (k,key,v,b,c,t,p,f,m,a,()) (Ly (k,key,v,b,c,t,p,f,m,a,())):=by
 obtain⟨A,i,d,j,r,s,u,l⟩:=eD h;have B:=Ry j;have w:(Kw (k,key,v,b,c,t,p,f,m,a,())).length<=4044:=(YN r s u).2;have n:∀(e q:L8),q.length<=100->xd (k,key,v,b,c,t,p,f,m,a,()) k key c t b e q=WY (k,key,v,b,c,t,p,f,m,a,()) (bif k==2 then Bq else bif k==3 then Bl else e,LV k key,bif WB k then Kw (k,key,v,b,c,t,p,f,m,a,()) else q,Td c t++MQ b,b,()):=by
  intro e q x;have g:(Gc++key).length<=5000:=by rw[List.length_append];show 3+_<=_;omega
  unfold xd LV WB;cases y:k==2
  ·cases z:k==3
   ·cases C:k==4
    ·cases D:k==5
     ·simp only[yF,Bool.or_self];exact T6 d i (J5 d g (by omega))
     ·simp only[yF,yT,Bool.or_true];rw[Ag l,yG];exact T6 d i (J5 d (by decide) (by omega))
    ·simp only[yF,yT,Bool.true_or];rw[Ag l,yG];exact T6 d i (J5 d (by decide) (by omega))
   ·have:k=3:=beq_iff_eq.1 z;subst this;exact T6 d i (J5 d g (by omega))
  ·have:k=2:=beq_iff_eq.1 y;subst this;exact T6 d i (J5 d g (by omega))
 have o:∀e:L8,xe (k,key,v,b,c,t,p,f,m,a,()) k key v c t b e=WY (k,key,v,b,c,t,p,f,m,a,()) (bif k==2 then Bq else bif k==3 then Bl else e,LV k key,Nt (k,key,v,b,c,t,p,f,m,a,()),Td c t++MQ b,b,()):=by
  intro e;unfold xe Nt bne;dsimp only;cases E:v==0
  ·rw[Bool.not_false,yT,yF,AP (show 8+(DV v).length<=1099511627776 by show 8+(Lib.itoa v).length<=_;omega),Ag (by rw[j];rfl),yG];exact n e _ (by rw[List.length_append];show 8+(Lib.itoa v).length<=_;omega)
  ·rw[Bool.not_true,yF,yT];exact n e [] (Nat.zero_le _)
 unfold y2;rw[AP (by omega),yG,o,o];unfold Ly Pz;dsimp only;cases a<;>rfl
end Nice
namespace Go.Proofs.YtkgejlchafionaaGreatDoor
open Tryz
open Nice
theorem jl:PC 49 WD:=(AN (AG (l:=[(50,Tf),(91,Tg)]) ⟨ABY,pP,trivial⟩) AM func49 (by kernel_rfl) (by decide)).nice λ⟨⟨k,key,v,b,c,t,p,f,m,d,()⟩,()⟩ h=>by
 have a:Lz (k,key,v,b,c,t,p,f,m,d,())=true:=h;unfold Lz at a;simp only[Bool.and_eq_true] at a;show ABZ _=_;rw[pR,jj (JA a.1) (JA a.2.1) a.2.2];rfl
theorem aN:PC 28 Nu:=(AN (AG (l:=[(51,xK),(48,n5),(49,WD),(50,Tf)]) ⟨pO,ue,jl,ABY,trivial⟩) AM func28 (by kernel_rfl) (by decide)).nice λ⟨⟨k,key,v,b,c,t,p,f,m,a,()⟩,()⟩ h=>by
 show T5 _=_;rw[eA,aM h];rfl
theorem pT:PC 12 cj:=(AN (AG (l:=[(28,Nu)]) ⟨aN,trivial⟩) AM func12 (by kernel_rfl) (by decide)).nice λ⟨⟨k,key,v,b,c,t,p,f,m,a,()⟩,()⟩ h=>by
 have h:ED (k,key,v,b,c,t,p,f,m,a,())=true:=h;show mC _=_;rw[ui,Ag h,Ag h,yG,yG];show _=some ((EC _).2,());cases(EC (k,key,v,b,c,t,p,f,m,a,())).2<;>rfl
end Go.Proofs.YtkgejlchafionaaGreatDoor
namespace Go.Eng
open Go
theorem Aw (b:Nat) (e:TypeId) (fr:Nat×Nat):∀(vs:List Value) (o:Nat) (c:Array Value) (w:World),w.heap[b]?=some (.cells c e fr)->
  w.setCells b o vs={ w with heap:=w.heap.setIfInBounds b (.cells (BQ c o vs) e fr)}
 |[],o,c,w,h=>by
  have:w.heap.setIfInBounds b (.cells c e fr)=w.heap:=by
   apply Array.ext_getElem?;intro j;rw[Array.getElem?_setIfInBounds]
   split
   ·rename_i d;subst d
    split
    ·exact h.symm
    ·rename_i g;rw[Array.getElem?_eq_none (by omega)]
   ·rfl
  rw[BQ,this];rfl
 |v::vs,o,c,w,h=>by
  have f:=Ap h;have a:w.setCell ⟨b,o,none⟩ v={ w with heap:=w.heap.setIfInBounds b (.cells (c.setIfInBounds o v) e fr)}:=by
   simp only[World.setCell];congr 1;apply Array.ext_getElem?;intro j;rw[Array.getElem?_modify,Array.getElem?_setIfInBounds]
   split
   ·rename_i d;subst d
    first|(rw[h];rfl)|simp[h,f]
   ·rfl
  show(w.setCell ⟨b,o,none⟩ v).setCells b (o+1) vs=_;rw[a,Aw b e fr vs (o+1) (c.setIfInBounds o v) _ (by simp[f])];simp only[BQ,Array.setIfInBounds_setIfInBounds]
theorem DR (b:Nat) (vs:List Value) (o:Nat) (w:World) (h:∀j,j<vs.length->(w.cell? ⟨b,o+j,none⟩).isSome=true) (k:Nat) (a:(w.cell? ⟨b,k,none⟩).isSome=true):((w.setCells b o vs).cell? ⟨b,k,none⟩).isSome=true:=by
 by_cases c:o<=k/\k<o+vs.length
 ·have:=World.cell?_setCells_in b vs o w h (k-o) (by omega);rw[show o+(k-o)=k by omega] at this;rw[this];cases vs[k-o]? with
  |none=>rfl
  |some v=>rfl
 ·rw[World.cell?_setCells_out b vs o w ⟨b,k,none⟩ (λ_ _=>by show k<o\/o+vs.length<=k;omega)];exact a
theorem Cn {P:Program} (w:World) (m q ty c:TypeId) (k b o d f:Nat) (a:Addr) (sLen g:Nat) (e:List Value)
  (r:P.underlying m=some (.slice c)) (n:(P.info? c).map (·.size)=some k) (s:e.length=Nat.min sLen d*k)
  (h:∀j v,e[j]?=some v->w.cell? (a.add j)=some v) (t:∀j,j<e.length->(w.cell? ⟨b,o+j,none⟩).isSome=true) (u:∀j,j<e.length->w.frozen? ⟨b,o+j,none⟩=false) (x:∀v∈e,v.oneCell'=true):
  (Builtin.copy_ #[m,q] ty #[.slice (some ⟨b,o,none⟩) d f,.slice (some a) sLen g]).run P w=.ok (goInt (Nat.min sLen d)) (w.setCells b o e):=by
 have p:=run_loadCells_list (P:=P) w a e h;have SQ:=run_storeCells_cells (P:=P) b o e 0 w (by simpa using t) (by simpa using u) x;cases l:P.info? c with
 |none=>simp[l] at n
 |some i=>
  have y:i.size=k:=by simpa[l] using n
  rw[s] at p;simp[Builtin.copy_,run_underlying r,Builtin.lenOf,Builtin.firstCells,sizeOf,typeInfo,l,y,p,SQ]
theorem FC {P:Program} {ops:Array Oper} {o:Oper} {a:Act} {w:World} {K:Act->World->Prop} {Q:Exit->Act->World->Prop} {E:Prop}
  (f:o.guard=none) (d x:Operand) (c e:TypeId) (b:o.op=Op.call { callee:=Callee.builtin Builtin.copy,args:=#[d,x],argTypes:=#[c,e]})
  (v u:Value) (hd:a.eval d=v) (g:a.eval x=u) {v':Value} {w':World} (h:(Builtin.copy_ #[c,e] o.type #[v,u]).run P w=.ok v' w') (i:K (a.put o.dst v') w'):
  if Region.wanted o (yielded ops a.tmps)=true then Oper.wp P o a w K Q else E:=by
 have j:Region.wanted o (yielded ops a.tmps)=true:=by simp[Region.wanted,f]
 rw[if_pos j];unfold Oper.wp;simp[execOp,b,Go.resolve,Go.invoke,Go.builtin,hd,g,h,Result.andThen];exact i
theorem QJ {P:Program} (w:World) (tS x e:TypeId) (s:P.underlying tS=some (.slice e)) (size:Nat) (u:∀w,(Go.sizeOf e).run P w=.ok size w)
  (a b:Addr) (h y i z:Nat) (c:a.block≠b.block) (A B:TypeId) (d f:Nat)
  (j:w.shape? a.block=some (A,d)) (k:d≠0) (l:w.shape? b.block=some (B,f)) (m:f≠0)
  (n:w.frozen? b=false) (o:w.frozen? { block:=b.block,off:=f}=false):
  (Extern.SlicesOverlaps.overlaps #[tS,tS] #[x] #[.slice (some a) h y,.slice (some b) i z]).run P w=.ok (.bool false) w:=by
 have p:(a.block !=b.block)=true:=by simpa using c
 have g:(a.block==b.block)=false:=by simpa using c
 change Sem.run P (α:=Value) (do
  let some t:=(#[tS,tS]:Array TypeId)[0]?|stuck "slices.overlaps: no parameter types"
  let .slice elem<-underlying t|stuck "slices.overlaps: slice type expected"
  let size<-sizeOf elem
  match(some a:Option Addr),(some b:Option Addr) with
  |some a,some b=>
   if h=0\/i=0\/size=0 then pure (Value.bool false)
   else if a.block !=b.block&&(<-frozen a)&&(<-frozen b) then unsupported .addressObserved
   else do
    if a.block !=b.block then do
     noView a;noView b
     if <-mayBeOne a b then return Value.bool ((<-choose (.extern "sameAddr.stringBytes" 2))==1)
    pure (Value.bool (a.block==b.block&&a.off<b.off+i*size&&b.off<a.off+h*size))
  |_,_=>pure (Value.bool false)) w=_
 by_cases v:h=0\/i=0\/size=0
 ·simp[run_underlying s,u,v]
 ·cases d with
  |zero=>exact absurd rfl k
  |succ d=>
   cases f with
   |zero=>exact absurd rfl m
   |succ f=>
    cases q:w.frozen? a<;>cases r:w.frozen? { block:=a.block,off:=d+1}<;>
     simp[run_underlying s,u,v,p,g,frozen,noView,viewAt,mayBeOne,stringish,shape,Sem.run,j,l,n,o,q,r]
open Go
theorem Ht {P:Program} (w:World) (t e ty:TypeId) (z:Value) (k:Nat) (g:P.underlying t=some (.slice e)) (a:∀w,(zeroValue e).run P w=.ok z w) (l:z.cells.size=k) (m:∀v∈z.cells,v.oneCell'=true) (b o n c:Nat)
  (p:∀j,j<n*k->(w.cell? ⟨b,o+j,none⟩).isSome=true) (q:∀j,j<n*k->w.frozen? ⟨b,o+j,none⟩=false) (x:0<n):
  (Builtin.clear_ #[t] ty #[.slice (some ⟨b,o,none⟩) n c]).run P w=.ok (.tuple #[]) (w.setCells b o (Builtin.zeroCells z.cells n).toList):=by
 have f:(Builtin.zeroCells z.cells n).toList.length=n*k:=by rw[Array.length_toList,Ac,l]
 have r:∀v∈(Builtin.zeroCells z.cells n).toList,v.oneCell'=true:=λv a=>by
  simp only[Builtin.zeroCells,Array.mem_toList_iff] at a;simp at a;obtain⟨i,s,rfl⟩:=a;have u:0<z.cells.size:=by
   rcases Nat.eq_zero_or_pos z.cells.size with h|h
   ·rw[h,Nat.mul_zero] at s;omega
   ·exact h
  have d:=Nat.mod_lt i u;rw[getElem!_pos z.cells _ d];exact m _ (Array.getElem_mem d)
 have SQ:=run_storeCells_cells (P:=P) b o (Builtin.zeroCells z.cells n).toList 0 w (by rw[f];simpa using p) (by rw[f];simpa using q) r;cases n with
 |zero=>omega
 |succ n=>simp[Builtin.clear_,run_underlying g,a,SQ]
end Go.Eng
namespace Go.Proofs.YtkgejlchafionaaGreatDoor
open Tryz
open Go.RowKit Go.Shelf Go.Lib
set_option maxHeartbeats 4000000
theorem eE (b off n c i:Nat) (vs:List Value) (w:World) (B:vs.length=n*3) (C:∀v,v∈vs->v.oneCell'=true)
  (s:∀k v,vs[k]?=some v->w.cell? ⟨b,off+k,none⟩=some v) (t:∀k,k<n*3->w.frozen? ⟨b,off+k,none⟩=false) (E:n<=c) (P:i+1<=n) (Q:n<=1099511627776):
  Calls prog 197 #[.slice (some ⟨b,off,none⟩) n c,.int .i64 i,.int .i64 ((i:Int)+1)] w λe w'=>e=.returned (.slice (some ⟨b,off,none⟩) (n-1) c)/\
   ∃q,w'=((w.drewN q).setCells b (off+i*3) (vs.drop ((i+1)*3))).setCells b (off+(n-1)*3) (Builtin.zeroCells #[.int .i64 0,.bool false,.string ⟨#[]⟩] 1).toList:=by
 obtain⟨i0,x,F,y⟩:∃i0:TypeInfo,Tryz.prog.info? 72=some i0/\i0.zero=some (.agg #[.int .i64 0,.bool false,.string ⟨#[]⟩])/\i0.size=3:=⟨Tryz.t72,by kernel_rfl,by kernel_rfl,by kernel_rfl⟩
 have v3:∀w,(zeroValue 72).run prog w=.ok (.agg #[.int .i64 0,.bool false,.string ⟨#[]⟩]) w:=zeroValue72;have t22:Tryz.prog.underlying 66=some (.slice 72):=underlying66;have j:(vs.drop ((i+1)*3)).length=(n-(i+1))*3:=by rw[List.length_drop,B];omega
 obtain⟨A,R,d⟩:∃A:Addr,(if c=i+1 then some (⟨b,off,none⟩:Addr) else some ⟨b,off+(i+1)*3,none⟩)=some A/\∀k u,(vs.drop ((i+1)*3))[k]?=some u->w.drew.cell? (A.add k)=some u:=by
  by_cases h:c=i+1
  ·refine⟨⟨b,off,none⟩,by simp[h],λk u l=> ?_⟩;have G:(vs.drop ((i+1)*3)).length=0:=by rw[j];omega
   rw[List.length_eq_zero_iff.1 G] at l;cases l
  ·refine⟨⟨b,off+(i+1)*3,none⟩,by simp[h],λk u l=> ?_⟩;rw[Addr.add_lit,Nat.add_assoc];exact s ((i+1)*3+k) u (by rwa[List.getElem?_drop] at l)
 have a:∀k,k<n*3->(w.cell? ⟨b,off+k,none⟩).isSome=true:=λk r=>by
  rw[s k _ (List.getElem?_eq_getElem (by omega))];rfl
 obtain⟨W1,f⟩:∃W1,W1=w.drew.setCells b (off+i*3) (vs.drop ((i+1)*3)):=⟨_,rfl⟩
 have z:∀ty,(Builtin.clear_ #[66] ty #[.slice (some ⟨b,off+(i+(n-(i+1)))*3,none⟩) (n-(i+(n-(i+1)))) (c-(i+(n-(i+1))))]).run prog W1=.ok (.tuple #[]) (W1.setCells b (off+(i+(n-(i+1)))*3) (Builtin.zeroCells #[.int .i64 0,.bool false,.string ⟨#[]⟩] (n-(i+(n-(i+1))))).toList):=
  λty=>Ht W1 66 72 ty _ 3 t22 v3 rfl (by intro v g;simp[Value.cells] at g;first|(subst g;rfl)|(rcases g with rfl|g<;>first|rfl|(subst g;rfl)|(rcases g with rfl|g<;>first|rfl|(subst g;rfl)))) b (off+(i+(n-(i+1)))*3) _ _ (λk r=>by
   rw[f,Nat.add_assoc];exact DR b _ _ _ (λq S=>by rw[Nat.add_assoc];exact a _ (by omega)) _ (a _ (by omega))) (λk r=>by rw[f,World.frozen?_setCells,Nat.add_assoc];exact t _ (by omega)) (by omega)
 have m:Hid ((vs.drop ((i+1)*3)).length=(n-(i+1))*3):=j;have o:Hid (∀u∈vs.drop ((i+1)*3),u.oneCell'=true):=λu l=>C u (List.mem_of_mem_drop l)
 have p:Hid (∀k,k<(vs.drop ((i+1)*3)).length->(w.drew.cell? ⟨b,off+i*3+k,none⟩).isSome=true/\w.drew.frozen? ⟨b,off+i*3+k,none⟩=false):=λk r=>by
  rw[j] at r;rw[Nat.add_assoc];exact⟨a _ (by omega),t _ (by omega)⟩
 have d:Hid (∀k u,(vs.drop ((i+1)*3))[k]?=some u->w.drew.cell? (A.add k)=some u):=d;have D:Hid (W1=w.drew.setCells b (off+i*3) (vs.drop ((i+1)*3))):=f;have mixed:Tryz.prog.follows .mixedOrders=true:=by kernel_rfl
 have H:i<=c:=by omega
 have I:i+1<=c:=by omega
 have J:i<=n:=by omega
 have K:((i:Int)+1).toNat=i+1:=by omega
 have L:(0:Int)<=(i:Int)+1:=by omega
 have M:(i:Int)+1<=(n:Int):=by omega
 have N:(i:Int)<=(i:Int)+1:=by omega
 have O:¬((i:Int)=(i:Int)+1):=by omega
 clear f s t a C B
 go_enter func197,ntmps197
 go_wp2_with fail
 go_region_law_o (refine step_append_room rfl (.tmp 22) (.tmp 25) 66 rfl 72 i0 3 t22 x y b off i c (by simp[Act.eval,Act.put]) A (n-(i+1)) (c-(i+1)) (vs.drop ((i+1)*3)) (by simp[Act.eval,Act.put]) m.out d.out o.out (by omega) p.out ?_;rw[<-D.out])
 go_wp2_with (at_builtin;refine wpList_clear_k _ rfl _ _ rfl _ rfl (z _) ?_)
 go_ret
 refine⟨by rw[show n-1=i+(n-(i+1)) by omega];rfl,1,?_⟩;rw[D.out,show n-(i+(n-(i+1)))=1 by omega,show n-1=i+(n-(i+1)) by omega];rfl
open Go.RowKit Go.Shelf Go.Lib
set_option maxHeartbeats 4000000
theorem Wa (b off n c i f a vc:Nat) (g vs:List Value) (w:World) (hi:i<n) (A:n+1<=c) (T:n<=1000000000) (s:f≠b)
  (B:g.length=n*2) (C:vs.length=2)
  (D:∀j v,g[j]?=some v->w.cell? ⟨b,off+j,none⟩=some v) (o:∀j,j<(n+1)*2->(w.cell? ⟨b,off+j,none⟩).isSome=true) (p:∀j,j<(n+1)*2->w.frozen? ⟨b,off+j,none⟩=false)
  (E:∀j v,vs[j]?=some v->w.cell? ⟨f,a+j,none⟩=some v) (F:∀v∈g,v.oneCell'=true) (G:∀v∈vs,v.oneCell'=true)
  (U V:TypeId) (H z:Nat) (I:w.shape? f=some (U,H)) (J:H≠0) (K:w.shape? b=some (V,z)) (L:z≠0) (M:w.frozen? ⟨b,z,none⟩=false):
  Calls prog 110 #[.slice (some ⟨b,off,none⟩) n c,.int .i64 i,.slice (some ⟨f,a,none⟩) 1 vc] w λe w'=>
   e=.returned (.slice (some ⟨b,off,none⟩) (n+1) c)/\∃q,w'=((w.drewN q).setCells b (off+(i+1)*2) (g.drop (i*2))).setCells b (off+i*2) vs:=by
 have X:¬((i:Int)=(n:Int)):=by omega
 have t:(Tryz.prog.info? 68).map (·.size)=some 2:=by kernel_rfl
 have tS:Tryz.prog.underlying 24=some (.slice 68):=underlying24;have N:∀O P,(callFunc 157 #[.slice (some ⟨f,a,none⟩) 1 vc,.slice (some ⟨b,off+(i+1)*2,none⟩) O P]).run prog w=.ok (.value (.bool false)) w:=λO P=>by
  rw[run_callFunc_extern func157 (by kernel_rfl) (by kernel_rfl) (by kernel_rfl) (e:=Extern.SlicesOverlaps.overlaps #[24,24] #[4]) (by kernel_rfl),
   QJ w 24 4 68 tS 2 sizeOf68 ⟨f,a,none⟩ ⟨b,off+(i+1)*2,none⟩ 1 vc O P s U V H z I J K L (p _ (by omega)) M]
  rfl
 have Q:(g.drop (i*2)).length=(n-i)*2:=by rw[List.length_drop,B];omega
 have mixed:Tryz.prog.follows .mixedOrders=true:=by kernel_rfl
 have Y:IntKind.i64.wrap ((i:Int)+1)=(i:Int)+1:=by rw[IntKind.wrap_i64];omega
 have Z:IntKind.i64.wrap ((n:Int)+1)=(n:Int)+1:=by rw[IntKind.wrap_i64];omega
 have hb1:(0:Int)<=(i:Int)+1:=by omega
 have hin:i<=n:=by omega
 have htn:((i:Int)+1).toNat=i+1:=by omega
 have htm:((n:Int)+1).toNat=n+1:=by omega
 have hb2:¬(c=i+1):=by omega
 have hb3:(i:Int)<=(n:Int)+1:=by omega
 have hb4:¬(c=i):=by omega
 have hb5:¬((c:Int)<(n:Int)+1):=by omega
 have hb6:(n:Int)+1<=(c:Int):=by omega
 have l:∀ty r R,(Builtin.copy_ #[24,24] ty #[.slice (some ⟨b,off+(i+1)*2,none⟩) (n-i) r,.slice (some ⟨b,off+i*2,none⟩) (n+1-i) R]).run prog w.drew=.ok (goInt (Nat.min (n+1-i) (n-i))) (w.drew.setCells b (off+(i+1)*2) (g.drop (i*2))):=λty r R=>
  Cn w.drew _ _ ty 68 2 b (off+(i+1)*2) (n-i) r ⟨b,off+i*2,none⟩ (n+1-i) R (g.drop (i*2)) tS t (by rw[Q];simp only[Nat.min_def];split<;>omega)
   (λj v m=>by rw[Addr.add_lit,Nat.add_assoc];exact D (i*2+j) v (by rwa[List.getElem?_drop] at m))
   (λj m=>by rw[Nat.add_assoc];exact o _ (by omega)) (λj m=>by rw[Nat.add_assoc];exact p _ (by omega)) (λv hv=>F v (List.mem_of_mem_drop hv))
 obtain⟨W1,d⟩:∃W1,W1=w.drew.setCells b (off+(i+1)*2) (g.drop (i*2)):=⟨_,rfl⟩
 have Ur:∀k,k<(n+1)*2->(W1.cell? ⟨b,off+k,none⟩).isSome=true:=λk hk=>by
  rw[d];exact DR b _ _ _ (λj m=>by rw[Nat.add_assoc];exact o _ (by omega)) _ (o k hk)
 have u:∀(W:World),(∀x,W.cell? x=W1.cell? x)->(∀x,W.frozen? x=W1.frozen? x)->∀ty r,(Builtin.copy_ #[24,24] ty #[.slice (some ⟨b,off+i*2,none⟩) (n+1-i) r,.slice (some ⟨f,a,none⟩) 1 vc]).run prog W=.ok (goInt (Nat.min 1 (n+1-i))) (W.setCells b (off+i*2) vs):=λW y S ty r=>
  Cn W _ _ ty 68 2 b (off+i*2) (n+1-i) r ⟨f,a,none⟩ 1 vc vs tS t (by rw[C];simp only[Nat.min_def];split<;>omega)
   (λj v m=>by
    rw[Addr.add_lit,y,d,World.cell?_setCells_out b _ _ _ _ (λh _=>absurd h s)];exact E j v m)
   (λj m=>by rw[y,Nat.add_assoc];exact Ur _ (by omega)) (λj m=>by rw[S,d,World.frozen?_setCells,Nat.add_assoc];exact p _ (by omega)) G
 rw[<-d] at l
 go_enter func110,ntmps110
 go_wp2_with (simp only[N])
 go_region_law_o (refine FC rfl _ _ 24 24 rfl _ _ (by simp[Act.eval,Act.put]) (by simp[Act.eval,Act.put]) (l _ _ _) ?_)
 go_wp2_with (at_builtin;refine wpList_copy_k _ rfl _ _ 24 24 rfl _ _ rfl rfl (u _ (λ_=>rfl) (λ_=>rfl) _ _) ?_)
 go_ret
 exact⟨rfl,1,rfl⟩
theorem Rz (b off n c i a vc:Nat) (vs:List Value) (w:World) (g:n+1<=c) (k:vs.length=2)
  (m:∀j,j<2->(w.cell? ⟨b,off+n*2+j,none⟩).isSome=true) (o:∀j,j<2->w.frozen? ⟨b,off+n*2+j,none⟩=false)
  (p:∀j v,vs[j]?=some v->w.cell? ⟨i,a+j,none⟩=some v) (q:∀v∈vs,v.oneCell'=true):
  Calls prog 110 #[.slice (some ⟨b,off,none⟩) n c,.int .i64 n,.slice (some ⟨i,a,none⟩) 1 vc] w λe w'=>
   e=.returned (.slice (some ⟨b,off,none⟩) (n+1) c)/\w'=w.setCells b (off+n*2) vs:=by
 have mixed:Tryz.prog.follows .mixedOrders=true:=by kernel_rfl
 have tS:Tryz.prog.underlying 24=some (.slice 68):=underlying24;obtain⟨i0,r,d⟩:∃i0:TypeInfo,Tryz.prog.info? 68=some i0/\i0.size=2:=⟨Tryz.t68,by kernel_rfl,by kernel_rfl⟩
 have f:Src prog i0.size 24 (.slice (some ⟨i,a,none⟩) 1 vc) 1 vs w:=Src.ofSlice w tS ⟨i,a,none⟩ 1 vc vs (by rw[d];omega) (λj u s=>by rw[Addr.add_lit];exact p j u s) q;have l:∀ty,(Builtin.append_ #[24,24] ty #[.slice (some ⟨b,off,none⟩) n c,.slice (some ⟨i,a,none⟩) 1 vc]).run prog w=.ok (.slice (some ⟨b,off,none⟩) (n+1) c) (w.setCells b (off+n*2) vs):=λty=>by
  have h:=run_append_room_src (P:=prog) (w:=w) 24 24 ty 68 i0 tS r b off n c _ 1 vs f g (by rw[k,d];exact m) (by rw[k,d];exact o);rw[d] at h;exact h
 clear f
 go_enter func110,ntmps110
 go_wp2_with (at_builtin;refine Lib.wpList_append_run _ rfl _ _ _ _ rfl _ _ rfl rfl _ _ (l _) ?_)
 go_ret
 exact⟨rfl,rfl⟩
theorem J6 (base:Option Addr) (n c l b vc:Nat) (f vs:List Value) (w:World) (A:n<=c) (d:c<n+1) (z:(n+1)*64<=140737488355328)
  (B:f.length=n*2) (C:vs.length=2) (g:base=none->n=0)
  (o:∀a,base=some a->∀j v,f[j]?=some v->w.cell? (a.add j)=some v)
  (p:∀j v,vs[j]?=some v->w.cell? ⟨l,b+j,none⟩=some v) (q:∀v∈vs,v.oneCell'=true):
  Calls prog 110 #[.slice base n c,.int .i64 n,.slice (some ⟨l,b,none⟩) 1 vc] w λe w'=>
   e=.returned (.slice (some ⟨w.heap.size,0,none⟩) (n+1) (grownCap w (n+1) c 68))/\
   w'=w.drew.alloc (.cells ((f++vs).toArray++Builtin.zeroCells #[.string ⟨#[]⟩,.slice none 0 0] (grownCap w (n+1) c 68-(n+1))) 68):=by
 have mixed:Tryz.prog.follows .mixedOrders=true:=by kernel_rfl
 have tS:Tryz.prog.underlying 24=some (.slice 68):=underlying24;obtain⟨i0,r,m,s,t⟩:∃i0:TypeInfo,Tryz.prog.info? 68=some i0/\i0.size=2/\i0.zero=some (.agg #[.string ⟨#[]⟩,.slice none 0 0])/\i0.bytes=40:=⟨Tryz.t68,by kernel_rfl,by kernel_rfl,by kernel_rfl,by kernel_rfl⟩
 have h:Src prog i0.size 24 (.slice (some ⟨l,b,none⟩) 1 vc) 1 vs w:=Src.ofSlice w tS ⟨l,b,none⟩ 1 vc vs (by rw[m];omega) (λj u x=>by rw[Addr.add_lit];exact p j u x) q;have i:(Builtin.firstCells i0.size n (.slice base n c)).run prog w.drew=.ok f.toArray w.drew:=by
  rw[m];cases base with
  |none=>
   have y:=g rfl;subst y;rw[List.length_eq_zero_iff.1 (by omega:f.length=0)];exact run_firstCells_none w.drew 2 0 0 c
  |some a=>exact run_firstCells_some w.drew 2 n a n c f (by omega) (λj v x=>o a rfl j v x)
 have k:∀ty,(Builtin.append_ #[24,24] ty #[.slice base n c,.slice (some ⟨l,b,none⟩) 1 vc]).run prog w=.ok (.slice (some ⟨w.heap.size,0,none⟩) (n+1) (grownCap w (n+1) c 68)) (w.drew.alloc (.cells ((f++vs).toArray++Builtin.zeroCells #[.string ⟨#[]⟩,.slice none 0 0] (grownCap w (n+1) c 68-(n+1))) 68)):=λty=>
  run_append_grow_src w 24 24 ty 68 i0 _ tS r s base n c f i _ 1 vs h d (by omega) (by rw[t];exact growslice_fits d (by omega))
 clear h i
 go_enter func110,ntmps110
 cases base with
 |none=>
  have y:=g rfl;subst y
  go_wp2_with (at_builtin;refine Lib.wpList_append_run _ rfl _ _ _ _ rfl _ _ rfl rfl _ _ (k _) ?_)
  go_ret
  exact⟨rfl,rfl⟩
 |some a=>
  obtain⟨E,F,D⟩:=a
  go_wp2_with (at_builtin;refine Lib.wpList_append_run _ rfl _ _ _ _ rfl _ _ rfl rfl _ _ (k _) ?_)
  all_goals (go_ret;exact⟨rfl,rfl⟩)
open Go.RowKit Go.Shelf Go.Lib
set_option maxHeartbeats 4000000
theorem aP (b off n c i o a vc:Nat) (d vs:List Value) (w:World) (hi:i<n) (hnc:n<=c) (r:c<n+1) (hbig:(n+1)*64<=140737488355328)
  (H:d.length=n*2) (I:vs.length=2) (J:b<w.heap.size) (K:o<w.heap.size)
  (z:∀j v,d[j]?=some v->w.cell? ⟨b,off+j,none⟩=some v)
  (L:∀j v,vs[j]?=some v->w.cell? ⟨o,a+j,none⟩=some v) (M:∀v∈d,v.oneCell'=true) (N:∀v∈vs,v.oneCell'=true):
  Calls prog 110 #[.slice (some ⟨b,off,none⟩) n c,.int .i64 i,.slice (some ⟨o,a,none⟩) 1 vc] w λe w'=>
   e=.returned (.slice (some ⟨w.heap.size,0,none⟩) (n+1) (grownCap w (n+1) c 68))/\
   w'=(((w.alloc (.cells ((d.take (i*2)).toArray++Builtin.zeroCells #[.string ⟨#[]⟩,.slice none 0 0] (n+1-i)++Builtin.zeroCells #[.string ⟨#[]⟩,.slice none 0 0] (grownCap w (n+1) c 68-(n+1))) 68)).drew.setCells w.heap.size (i*2) vs).drew).setCells w.heap.size ((i+1)*2) (d.drop (i*2)):=by
 have mixed:Tryz.prog.follows .mixedOrders=true:=by kernel_rfl
 have tS:Tryz.prog.underlying 24=some (.slice 68):=underlying24;obtain⟨i0,O,P,Q,A⟩:∃i0:TypeInfo,Tryz.prog.info? 68=some i0/\i0.size=2/\i0.zero=some (.agg #[.string ⟨#[]⟩,.slice none 0 0])/\i0.bytes=40:=⟨Tryz.t68,by kernel_rfl,by kernel_rfl,by kernel_rfl,by kernel_rfl⟩
 have hz2:¬((i:Int)=(n:Int)):=by omega
 have hz3:(c:Int)<(n:Int)+1:=by omega
 have B:(Tryz.prog.info? 68).map (·.size)=some 2:=by kernel_rfl
 have C:(n:Int)+1-(i:Int)=((n+1-i:Nat):Int):=by omega
 have s:i+(n+1-i)=n+1:=by omega
 have p:(Builtin.firstCells i0.size i (.slice (some ⟨b,off,none⟩) i c)).run prog w.drew=.ok (d.take (i*2)).toArray w.drew:=by
  rw[P];exact run_firstCells_some w.drew 2 i ⟨b,off,none⟩ i c (d.take (i*2)) (by rw[List.length_take];omega) (λj v f=>by
   rw[Addr.add_lit];rw[List.getElem?_take] at f
   split at f
   ·exact z j v f
   ·cases f)
 have m:∀ty,(Builtin.append_ #[24,3] ty #[.slice (some ⟨b,off,none⟩) i c,.int .i64 ((n:Int)+1-(i:Int))]).run prog w=
   .ok (.slice (some ⟨w.heap.size,0,none⟩) (n+1) (grownCap w (n+1) c 68)) (w.drew.alloc (.cells ((d.take (i*2)).toArray++Builtin.zeroCells #[.string ⟨#[]⟩,.slice none 0 0] (n+1-i)++Builtin.zeroCells #[.string ⟨#[]⟩,.slice none 0 0] (grownCap w (n+1) c 68-(n+1))) 68)):=λty=>by
  have h:=Lib.run_append_grow_zeros w 24 3 ty 68 i0 _ .i64 .i64 tS underlying3 O Q (some ⟨b,off,none⟩) i c (d.take (i*2)) p (n+1-i) (by omega) (by omega) (by omega) (by omega) (by rw[A];omega) (by rw[A,s];exact growslice_fits r (by omega));rw[s] at h;rw[C];exact h
 obtain⟨G,F⟩:∃G,G=grownCap w (n+1) c 68:=⟨_,rfl⟩
 obtain⟨ROW,k⟩:∃ROW:Array Value,ROW=(d.take (i*2)).toArray++Builtin.zeroCells #[.string ⟨#[]⟩,.slice none 0 0] (n+1-i)++Builtin.zeroCells #[.string ⟨#[]⟩,.slice none 0 0] (G-(n+1)):=⟨_,rfl⟩
 rw[<-F] at m⊢;rw[<-k] at m⊢;have R:(n+1)*2<=ROW.size:=by
  rw[k];have e1:=Ac #[.string ⟨#[]⟩,.slice none 0 0] (n+1-i);have e2:(#[.string ⟨#[]⟩,.slice none 0 0]:Array Value).size=2:=rfl;rw[e2] at e1;rw[Array.size_append,Array.size_append,e1,List.size_toArray,List.length_take];omega
 obtain⟨W1,g⟩:∃W1,W1=w.drew.alloc (.cells ROW 68):=⟨_,rfl⟩
 rw[<-g] at m;have hN:∀j,j<(n+1)*2->(W1.cell? ⟨w.heap.size,j,none⟩).isSome=true:=λj f=>by
  rw[g,World.cell?_alloc_at (w:=w.drew) ROW _ w.heap.size j rfl,Array.getElem?_eq_getElem (by omega)];rfl
 have D:∀j,W1.frozen? ⟨w.heap.size,j,none⟩=false:=λj=>by rw[g];exact World.frozen?_alloc_at (w:=w.drew) ROW _ w.heap.size j rfl
 have S:∀j v,w.cell? ⟨b,j,none⟩=some v->W1.cell? ⟨b,j,none⟩=some v:=λj v h=>by rw[g,World.cell?_alloc_past (w:=w.drew) _ b j J];exact h
 have T:∀j v,w.cell? ⟨o,j,none⟩=some v->W1.cell? ⟨o,j,none⟩=some v:=λj v h=>by rw[g,World.cell?_alloc_past (w:=w.drew) _ o j K];exact h
 have E:∀(W:World),(∀x,W.cell? x=W1.cell? x)->(∀x,W.frozen? x=W1.frozen? x)->∀ty u,(Builtin.copy_ #[24,24] ty #[.slice (some ⟨w.heap.size,i*2,none⟩) (n+1-i) u,.slice (some ⟨o,a,none⟩) 1 vc]).run prog W=.ok (goInt (Nat.min 1 (n+1-i))) (W.setCells w.heap.size (i*2) vs):=λW l y ty u=>
  Cn W _ _ ty 68 2 w.heap.size (i*2) (n+1-i) u ⟨o,a,none⟩ 1 vc vs tS B (by rw[I];simp only[Nat.min_def];split<;>omega)
   (λj v f=>by rw[Addr.add_lit,l];exact T _ v (L j v f))
   (λj f=>by rw[l];exact hN _ (by omega)) (λj f=>by rw[y];exact D _) N
 have hGn:n+1<=G:=by rw[F];exact grownCap_ge w _ _ _
 have hG63:G<=9223372036854775807:=by
  have:=grownCap_le_maxLen w (n+1) c 68 (by unfold maxLen;omega);rw[<-F] at this;unfold maxLen at this;omega
 have hGi:¬(G=i):=by omega
 have hGim:¬(G=i+1):=by omega
 have hci:¬(c=i):=by omega
 have U:b≠w.heap.size:=by omega
 have V:(d.drop (i*2)).length=(n-i)*2:=by rw[List.length_drop,H];omega
 have q:∀(W:World),(∀x,W.cell? x=(W1.setCells w.heap.size (i*2) vs).cell? x)->(∀x,W.frozen? x=(W1.setCells w.heap.size (i*2) vs).frozen? x)->∀ty u X,(Builtin.copy_ #[24,24] ty #[.slice (some ⟨w.heap.size,(i+1)*2,none⟩) (n-i) u,.slice (some ⟨b,off+i*2,none⟩) (n-i) X]).run prog W=.ok (goInt (Nat.min (n-i) (n-i))) (W.setCells w.heap.size ((i+1)*2) (d.drop (i*2))):=λW l y ty u X=>
  Cn W _ _ ty 68 2 w.heap.size ((i+1)*2) (n-i) u ⟨b,off+i*2,none⟩ (n-i) X (d.drop (i*2)) tS B (by rw[V];simp only[Nat.min_def];split<;>omega)
   (λj v f=>by
    rw[Addr.add_lit,l,World.cell?_setCells_out _ _ _ _ _ (λh _=>absurd h U),Nat.add_assoc];exact S _ v (z (i*2+j) v (by rwa[List.getElem?_drop] at f)))
   (λj f=>by rw[l];exact DR _ _ _ _ (λt ht=>hN _ (by omega)) _ (hN _ (by omega)))
   (λj f=>by rw[y,World.frozen?_setCells];exact D _) (λv hv=>M v (List.mem_of_mem_drop hv))
 subst g;have Y:∀x,((w.alloc (.cells ROW 68)).drew).cell? x=(w.drew.alloc (.cells ROW 68)).cell? x:=λx=>rfl
 have Z:∀x,((w.alloc (.cells ROW 68)).drew).frozen? x=(w.drew.alloc (.cells ROW 68)).frozen? x:=λx=>rfl
 have hF1:∀x,(((w.alloc (.cells ROW 68)).drew.setCells w.heap.size (i*2) vs).drew).cell? x=((w.drew.alloc (.cells ROW 68)).setCells w.heap.size (i*2) vs).cell? x:=λx=>rfl
 have hF2:∀x,(((w.alloc (.cells ROW 68)).drew.setCells w.heap.size (i*2) vs).drew).frozen? x=((w.drew.alloc (.cells ROW 68)).setCells w.heap.size (i*2) vs).frozen? x:=λx=>rfl
 have hw1:IntKind.i64.wrap ((i:Int)+1)=(i:Int)+1:=by rw[IntKind.wrap_i64];omega
 have hw2:IntKind.i64.wrap ((n:Int)+1)=(n:Int)+1:=by rw[IntKind.wrap_i64];omega
 have hw3:IntKind.i64.wrap ((n:Int)+1-(i:Int))=(n:Int)+1-(i:Int):=by rw[IntKind.wrap_i64];omega
 have hb1:(0:Int)<=(i:Int)+1:=by omega
 have hin:i<=n:=by omega
 have htn:((i:Int)+1).toNat=i+1:=by omega
 have hb3:(i:Int)<=(n:Int):=by omega
 have hbc:(i:Int)<=(c:Int):=by omega
 clear C s p k F R
 go_enter func110,ntmps110
 go_wp2_with (first
  |(at_builtin;refine Lib.wpList_append_run _ rfl _ _ _ _ rfl _ _ rfl rfl _ _ (m _) ?_)
  |(at_builtin;refine wpList_copy_k _ rfl _ _ 24 24 rfl _ _ rfl rfl (E _ Y Z _ _) ?_)
  |(at_builtin;refine wpList_copy_k _ rfl _ _ 24 24 rfl _ _ rfl rfl (q _ (λ_=>rfl) (λ_=>rfl) _ _ _) ?_))
 go_region_law_o (refine FC rfl _ _ 24 24 rfl (.slice (some ⟨w.heap.size,(i+1)*2,none⟩) (n-i) (G-(i+1))) (.slice (some ⟨b,off+i*2,none⟩) (n-i) (c-i)) (by simp[Act.eval,Act.put]) (by simp[Act.eval,Act.put]) (q _ hF1 hF2 3 (G-(i+1)) (c-i)) ?_)
 go_wp2
 go_ret
 exact⟨rfl,rfl⟩
open Go.RowKit Go.Shelf Go.Lib
set_option maxHeartbeats 4000000
theorem eF (b off n c i:Nat) (vs:List Value) (w:World) (B:vs.length=n*2) (C:∀v,v∈vs->v.oneCell'=true)
  (s:∀k v,vs[k]?=some v->w.cell? ⟨b,off+k,none⟩=some v) (t:∀k,k<n*2->w.frozen? ⟨b,off+k,none⟩=false) (E:n<=c) (P:i+1<=n) (Q:n<=1099511627776):
  Calls prog 155 #[.slice (some ⟨b,off,none⟩) n c,.int .i64 i,.int .i64 ((i:Int)+1)] w λe w'=>e=.returned (.slice (some ⟨b,off,none⟩) (n-1) c)/\
   ∃q,w'=((w.drewN q).setCells b (off+i*2) (vs.drop ((i+1)*2))).setCells b (off+(n-1)*2) (Builtin.zeroCells #[.string ⟨#[]⟩,.slice none 0 0] 1).toList:=by
 obtain⟨i0,x,F,y⟩:∃i0:TypeInfo,Tryz.prog.info? 68=some i0/\i0.zero=some (.agg #[.string ⟨#[]⟩,.slice none 0 0])/\i0.size=2:=⟨Tryz.t68,by kernel_rfl,by kernel_rfl,by kernel_rfl⟩
 have v3:∀w,(zeroValue 68).run prog w=.ok (.agg #[.string ⟨#[]⟩,.slice none 0 0]) w:=zeroValue68;have t22:Tryz.prog.underlying 24=some (.slice 68):=underlying24;have j:(vs.drop ((i+1)*2)).length=(n-(i+1))*2:=by rw[List.length_drop,B];omega
 obtain⟨A,R,d⟩:∃A:Addr,(if c=i+1 then some (⟨b,off,none⟩:Addr) else some ⟨b,off+(i+1)*2,none⟩)=some A/\∀k u,(vs.drop ((i+1)*2))[k]?=some u->w.drew.cell? (A.add k)=some u:=by
  by_cases h:c=i+1
  ·refine⟨⟨b,off,none⟩,by simp[h],λk u l=> ?_⟩;have G:(vs.drop ((i+1)*2)).length=0:=by rw[j];omega
   rw[List.length_eq_zero_iff.1 G] at l;cases l
  ·refine⟨⟨b,off+(i+1)*2,none⟩,by simp[h],λk u l=> ?_⟩;rw[Addr.add_lit,Nat.add_assoc];exact s ((i+1)*2+k) u (by rwa[List.getElem?_drop] at l)
 have a:∀k,k<n*2->(w.cell? ⟨b,off+k,none⟩).isSome=true:=λk r=>by
  rw[s k _ (List.getElem?_eq_getElem (by omega))];rfl
 obtain⟨W1,f⟩:∃W1,W1=w.drew.setCells b (off+i*2) (vs.drop ((i+1)*2)):=⟨_,rfl⟩
 have z:∀ty,(Builtin.clear_ #[24] ty #[.slice (some ⟨b,off+(i+(n-(i+1)))*2,none⟩) (n-(i+(n-(i+1)))) (c-(i+(n-(i+1))))]).run prog W1=.ok (.tuple #[]) (W1.setCells b (off+(i+(n-(i+1)))*2) (Builtin.zeroCells #[.string ⟨#[]⟩,.slice none 0 0] (n-(i+(n-(i+1))))).toList):=
  λty=>Ht W1 24 68 ty _ 2 t22 v3 rfl (by intro v g;simp[Value.cells] at g;first|(subst g;rfl)|(rcases g with rfl|g<;>first|rfl|(subst g;rfl)|(rcases g with rfl|g<;>first|rfl|(subst g;rfl)))) b (off+(i+(n-(i+1)))*2) _ _ (λk r=>by
   rw[f,Nat.add_assoc];exact DR b _ _ _ (λq S=>by rw[Nat.add_assoc];exact a _ (by omega)) _ (a _ (by omega))) (λk r=>by rw[f,World.frozen?_setCells,Nat.add_assoc];exact t _ (by omega)) (by omega)
 have m:Hid ((vs.drop ((i+1)*2)).length=(n-(i+1))*2):=j;have o:Hid (∀u∈vs.drop ((i+1)*2),u.oneCell'=true):=λu l=>C u (List.mem_of_mem_drop l)
 have p:Hid (∀k,k<(vs.drop ((i+1)*2)).length->(w.drew.cell? ⟨b,off+i*2+k,none⟩).isSome=true/\w.drew.frozen? ⟨b,off+i*2+k,none⟩=false):=λk r=>by
  rw[j] at r;rw[Nat.add_assoc];exact⟨a _ (by omega),t _ (by omega)⟩
 have d:Hid (∀k u,(vs.drop ((i+1)*2))[k]?=some u->w.drew.cell? (A.add k)=some u):=d;have D:Hid (W1=w.drew.setCells b (off+i*2) (vs.drop ((i+1)*2))):=f;have mixed:Tryz.prog.follows .mixedOrders=true:=by kernel_rfl
 have H:i<=c:=by omega
 have I:i+1<=c:=by omega
 have J:i<=n:=by omega
 have K:((i:Int)+1).toNat=i+1:=by omega
 have L:(0:Int)<=(i:Int)+1:=by omega
 have M:(i:Int)+1<=(n:Int):=by omega
 have N:(i:Int)<=(i:Int)+1:=by omega
 have O:¬((i:Int)=(i:Int)+1):=by omega
 clear f s t a C B
 go_enter func155,ntmps155
 go_wp2_with fail
 go_region_law_o (refine step_append_room rfl (.tmp 22) (.tmp 25) 24 rfl 68 i0 2 t22 x y b off i c (by simp[Act.eval,Act.put]) A (n-(i+1)) (c-(i+1)) (vs.drop ((i+1)*2)) (by simp[Act.eval,Act.put]) m.out d.out o.out (by omega) p.out ?_;rw[<-D.out])
 go_wp2_with (at_builtin;refine wpList_clear_k _ rfl _ _ rfl _ rfl (z _) ?_)
 go_ret
 refine⟨by rw[show n-1=i+(n-(i+1)) by omega];rfl,1,?_⟩;rw[D.out,show n-(i+(n-(i+1)))=1 by omega,show n-1=i+(n-(i+1)) by omega];rfl
open Go.RowKit Go.Shelf Go.Lib
set_option maxHeartbeats 4000000
theorem Wb (b off n c i f a vc:Nat) (g vs:List Value) (w:World) (hi:i<n) (A:n+1<=c) (T:n<=1000000000) (s:f≠b)
  (B:g.length=n*3) (C:vs.length=3)
  (D:∀j v,g[j]?=some v->w.cell? ⟨b,off+j,none⟩=some v) (o:∀j,j<(n+1)*3->(w.cell? ⟨b,off+j,none⟩).isSome=true) (p:∀j,j<(n+1)*3->w.frozen? ⟨b,off+j,none⟩=false)
  (E:∀j v,vs[j]?=some v->w.cell? ⟨f,a+j,none⟩=some v) (F:∀v∈g,v.oneCell'=true) (G:∀v∈vs,v.oneCell'=true)
  (U V:TypeId) (H z:Nat) (I:w.shape? f=some (U,H)) (J:H≠0) (K:w.shape? b=some (V,z)) (L:z≠0) (M:w.frozen? ⟨b,z,none⟩=false):
  Calls prog 69 #[.slice (some ⟨b,off,none⟩) n c,.int .i64 i,.slice (some ⟨f,a,none⟩) 1 vc] w λe w'=>
   e=.returned (.slice (some ⟨b,off,none⟩) (n+1) c)/\∃q,w'=((w.drewN q).setCells b (off+(i+1)*3) (g.drop (i*3))).setCells b (off+i*3) vs:=by
 have X:¬((i:Int)=(n:Int)):=by omega
 have t:(Tryz.prog.info? 75).map (·.size)=some 3:=by kernel_rfl
 have tS:Tryz.prog.underlying 25=some (.slice 75):=underlying25;have N:∀O P,(callFunc 111 #[.slice (some ⟨f,a,none⟩) 1 vc,.slice (some ⟨b,off+(i+1)*3,none⟩) O P]).run prog w=.ok (.value (.bool false)) w:=λO P=>by
  rw[run_callFunc_extern func111 (by kernel_rfl) (by kernel_rfl) (by kernel_rfl) (e:=Extern.SlicesOverlaps.overlaps #[25,25] #[4]) (by kernel_rfl),
   QJ w 25 4 75 tS 3 sizeOf75 ⟨f,a,none⟩ ⟨b,off+(i+1)*3,none⟩ 1 vc O P s U V H z I J K L (p _ (by omega)) M]
  rfl
 have Q:(g.drop (i*3)).length=(n-i)*3:=by rw[List.length_drop,B];omega
 have mixed:Tryz.prog.follows .mixedOrders=true:=by kernel_rfl
 have Y:IntKind.i64.wrap ((i:Int)+1)=(i:Int)+1:=by rw[IntKind.wrap_i64];omega
 have Z:IntKind.i64.wrap ((n:Int)+1)=(n:Int)+1:=by rw[IntKind.wrap_i64];omega
 have hb1:(0:Int)<=(i:Int)+1:=by omega
 have hin:i<=n:=by omega
 have htn:((i:Int)+1).toNat=i+1:=by omega
 have htm:((n:Int)+1).toNat=n+1:=by omega
 have hb2:¬(c=i+1):=by omega
 have hb3:(i:Int)<=(n:Int)+1:=by omega
 have hb4:¬(c=i):=by omega
 have hb5:¬((c:Int)<(n:Int)+1):=by omega
 have hb6:(n:Int)+1<=(c:Int):=by omega
 have l:∀ty r R,(Builtin.copy_ #[25,25] ty #[.slice (some ⟨b,off+(i+1)*3,none⟩) (n-i) r,.slice (some ⟨b,off+i*3,none⟩) (n+1-i) R]).run prog w.drew=.ok (goInt (Nat.min (n+1-i) (n-i))) (w.drew.setCells b (off+(i+1)*3) (g.drop (i*3))):=λty r R=>
  Cn w.drew _ _ ty 75 3 b (off+(i+1)*3) (n-i) r ⟨b,off+i*3,none⟩ (n+1-i) R (g.drop (i*3)) tS t (by rw[Q];simp only[Nat.min_def];split<;>omega)
   (λj v m=>by rw[Addr.add_lit,Nat.add_assoc];exact D (i*3+j) v (by rwa[List.getElem?_drop] at m))
   (λj m=>by rw[Nat.add_assoc];exact o _ (by omega)) (λj m=>by rw[Nat.add_assoc];exact p _ (by omega)) (λv hv=>F v (List.mem_of_mem_drop hv))
 obtain⟨W1,d⟩:∃W1,W1=w.drew.setCells b (off+(i+1)*3) (g.drop (i*3)):=⟨_,rfl⟩
 have Ur:∀k,k<(n+1)*3->(W1.cell? ⟨b,off+k,none⟩).isSome=true:=λk hk=>by
  rw[d];exact DR b _ _ _ (λj m=>by rw[Nat.add_assoc];exact o _ (by omega)) _ (o k hk)
 have u:∀(W:World),(∀x,W.cell? x=W1.cell? x)->(∀x,W.frozen? x=W1.frozen? x)->∀ty r,(Builtin.copy_ #[25,25] ty #[.slice (some ⟨b,off+i*3,none⟩) (n+1-i) r,.slice (some ⟨f,a,none⟩) 1 vc]).run prog W=.ok (goInt (Nat.min 1 (n+1-i))) (W.setCells b (off+i*3) vs):=λW y S ty r=>
  Cn W _ _ ty 75 3 b (off+i*3) (n+1-i) r ⟨f,a,none⟩ 1 vc vs tS t (by rw[C];simp only[Nat.min_def];split<;>omega)
   (λj v m=>by
    rw[Addr.add_lit,y,d,World.cell?_setCells_out b _ _ _ _ (λh _=>absurd h s)];exact E j v m)
   (λj m=>by rw[y,Nat.add_assoc];exact Ur _ (by omega)) (λj m=>by rw[S,d,World.frozen?_setCells,Nat.add_assoc];exact p _ (by omega)) G
 rw[<-d] at l
 go_enter func69,ntmps69
 go_wp2_with (simp only[N])
 go_region_law_o (refine FC rfl _ _ 25 25 rfl _ _ (by simp[Act.eval,Act.put]) (by simp[Act.eval,Act.put]) (l _ _ _) ?_)
 go_wp2_with (at_builtin;refine wpList_copy_k _ rfl _ _ 25 25 rfl _ _ rfl rfl (u _ (λ_=>rfl) (λ_=>rfl) _ _) ?_)
 go_ret
 exact⟨rfl,1,rfl⟩
theorem R0 (b off n c i a vc:Nat) (vs:List Value) (w:World) (g:n+1<=c) (k:vs.length=3)
  (m:∀j,j<3->(w.cell? ⟨b,off+n*3+j,none⟩).isSome=true) (o:∀j,j<3->w.frozen? ⟨b,off+n*3+j,none⟩=false)
  (p:∀j v,vs[j]?=some v->w.cell? ⟨i,a+j,none⟩=some v) (q:∀v∈vs,v.oneCell'=true):
  Calls prog 69 #[.slice (some ⟨b,off,none⟩) n c,.int .i64 n,.slice (some ⟨i,a,none⟩) 1 vc] w λe w'=>
   e=.returned (.slice (some ⟨b,off,none⟩) (n+1) c)/\w'=w.setCells b (off+n*3) vs:=by
 have mixed:Tryz.prog.follows .mixedOrders=true:=by kernel_rfl
 have tS:Tryz.prog.underlying 25=some (.slice 75):=underlying25;obtain⟨i0,r,d⟩:∃i0:TypeInfo,Tryz.prog.info? 75=some i0/\i0.size=3:=⟨Tryz.t75,by kernel_rfl,by kernel_rfl⟩
 have f:Src prog i0.size 25 (.slice (some ⟨i,a,none⟩) 1 vc) 1 vs w:=Src.ofSlice w tS ⟨i,a,none⟩ 1 vc vs (by rw[d];omega) (λj u s=>by rw[Addr.add_lit];exact p j u s) q;have l:∀ty,(Builtin.append_ #[25,25] ty #[.slice (some ⟨b,off,none⟩) n c,.slice (some ⟨i,a,none⟩) 1 vc]).run prog w=.ok (.slice (some ⟨b,off,none⟩) (n+1) c) (w.setCells b (off+n*3) vs):=λty=>by
  have h:=run_append_room_src (P:=prog) (w:=w) 25 25 ty 75 i0 tS r b off n c _ 1 vs f g (by rw[k,d];exact m) (by rw[k,d];exact o);rw[d] at h;exact h
 clear f
 go_enter func69,ntmps69
 go_wp2_with (at_builtin;refine Lib.wpList_append_run _ rfl _ _ _ _ rfl _ _ rfl rfl _ _ (l _) ?_)
 go_ret
 exact⟨rfl,rfl⟩
theorem J7 (base:Option Addr) (n c l b vc:Nat) (f vs:List Value) (w:World) (A:n<=c) (d:c<n+1) (z:(n+1)*64<=140737488355328)
  (B:f.length=n*3) (C:vs.length=3) (g:base=none->n=0)
  (o:∀a,base=some a->∀j v,f[j]?=some v->w.cell? (a.add j)=some v)
  (p:∀j v,vs[j]?=some v->w.cell? ⟨l,b+j,none⟩=some v) (q:∀v∈vs,v.oneCell'=true):
  Calls prog 69 #[.slice base n c,.int .i64 n,.slice (some ⟨l,b,none⟩) 1 vc] w λe w'=>
   e=.returned (.slice (some ⟨w.heap.size,0,none⟩) (n+1) (grownCap w (n+1) c 75))/\
   w'=w.drew.alloc (.cells ((f++vs).toArray++Builtin.zeroCells #[.int .i64 0,.int .i64 0,.int .i64 0] (grownCap w (n+1) c 75-(n+1))) 75):=by
 have mixed:Tryz.prog.follows .mixedOrders=true:=by kernel_rfl
 have tS:Tryz.prog.underlying 25=some (.slice 75):=underlying25;obtain⟨i0,r,m,s,t⟩:∃i0:TypeInfo,Tryz.prog.info? 75=some i0/\i0.size=3/\i0.zero=some (.agg #[.int .i64 0,.int .i64 0,.int .i64 0])/\i0.bytes=24:=⟨Tryz.t75,by kernel_rfl,by kernel_rfl,by kernel_rfl,by kernel_rfl⟩
 have h:Src prog i0.size 25 (.slice (some ⟨l,b,none⟩) 1 vc) 1 vs w:=Src.ofSlice w tS ⟨l,b,none⟩ 1 vc vs (by rw[m];omega) (λj u x=>by rw[Addr.add_lit];exact p j u x) q;have i:(Builtin.firstCells i0.size n (.slice base n c)).run prog w.drew=.ok f.toArray w.drew:=by
  rw[m];cases base with
  |none=>
   have y:=g rfl;subst y;rw[List.length_eq_zero_iff.1 (by omega:f.length=0)];exact run_firstCells_none w.drew 3 0 0 c
  |some a=>exact run_firstCells_some w.drew 3 n a n c f (by omega) (λj v x=>o a rfl j v x)
 have k:∀ty,(Builtin.append_ #[25,25] ty #[.slice base n c,.slice (some ⟨l,b,none⟩) 1 vc]).run prog w=.ok (.slice (some ⟨w.heap.size,0,none⟩) (n+1) (grownCap w (n+1) c 75)) (w.drew.alloc (.cells ((f++vs).toArray++Builtin.zeroCells #[.int .i64 0,.int .i64 0,.int .i64 0] (grownCap w (n+1) c 75-(n+1))) 75)):=λty=>
  run_append_grow_src w 25 25 ty 75 i0 _ tS r s base n c f i _ 1 vs h d (by omega) (by rw[t];exact growslice_fits d (by omega))
 clear h i
 go_enter func69,ntmps69
 cases base with
 |none=>
  have y:=g rfl;subst y
  go_wp2_with (at_builtin;refine Lib.wpList_append_run _ rfl _ _ _ _ rfl _ _ rfl rfl _ _ (k _) ?_)
  go_ret
  exact⟨rfl,rfl⟩
 |some a=>
  obtain⟨E,F,D⟩:=a
  go_wp2_with (at_builtin;refine Lib.wpList_append_run _ rfl _ _ _ _ rfl _ _ rfl rfl _ _ (k _) ?_)
  all_goals (go_ret;exact⟨rfl,rfl⟩)
open Go.RowKit Go.Shelf Go.Lib
set_option maxHeartbeats 4000000
theorem aQ (b off n c i o a vc:Nat) (d vs:List Value) (w:World) (hi:i<n) (hnc:n<=c) (r:c<n+1) (hbig:(n+1)*64<=140737488355328)
  (H:d.length=n*3) (I:vs.length=3) (J:b<w.heap.size) (K:o<w.heap.size)
  (z:∀j v,d[j]?=some v->w.cell? ⟨b,off+j,none⟩=some v)
  (L:∀j v,vs[j]?=some v->w.cell? ⟨o,a+j,none⟩=some v) (M:∀v∈d,v.oneCell'=true) (N:∀v∈vs,v.oneCell'=true):
  Calls prog 69 #[.slice (some ⟨b,off,none⟩) n c,.int .i64 i,.slice (some ⟨o,a,none⟩) 1 vc] w λe w'=>
   e=.returned (.slice (some ⟨w.heap.size,0,none⟩) (n+1) (grownCap w (n+1) c 75))/\
   w'=(((w.alloc (.cells ((d.take (i*3)).toArray++Builtin.zeroCells #[.int .i64 0,.int .i64 0,.int .i64 0] (n+1-i)++Builtin.zeroCells #[.int .i64 0,.int .i64 0,.int .i64 0] (grownCap w (n+1) c 75-(n+1))) 75)).drew.setCells w.heap.size (i*3) vs).drew).setCells w.heap.size ((i+1)*3) (d.drop (i*3)):=by
 have mixed:Tryz.prog.follows .mixedOrders=true:=by kernel_rfl
 have tS:Tryz.prog.underlying 25=some (.slice 75):=underlying25;obtain⟨i0,O,P,Q,A⟩:∃i0:TypeInfo,Tryz.prog.info? 75=some i0/\i0.size=3/\i0.zero=some (.agg #[.int .i64 0,.int .i64 0,.int .i64 0])/\i0.bytes=24:=⟨Tryz.t75,by kernel_rfl,by kernel_rfl,by kernel_rfl,by kernel_rfl⟩
 have hz2:¬((i:Int)=(n:Int)):=by omega
 have hz3:(c:Int)<(n:Int)+1:=by omega
 have B:(Tryz.prog.info? 75).map (·.size)=some 3:=by kernel_rfl
 have C:(n:Int)+1-(i:Int)=((n+1-i:Nat):Int):=by omega
 have s:i+(n+1-i)=n+1:=by omega
 have p:(Builtin.firstCells i0.size i (.slice (some ⟨b,off,none⟩) i c)).run prog w.drew=.ok (d.take (i*3)).toArray w.drew:=by
  rw[P];exact run_firstCells_some w.drew 3 i ⟨b,off,none⟩ i c (d.take (i*3)) (by rw[List.length_take];omega) (λj v f=>by
   rw[Addr.add_lit];rw[List.getElem?_take] at f
   split at f
   ·exact z j v f
   ·cases f)
 have m:∀ty,(Builtin.append_ #[25,3] ty #[.slice (some ⟨b,off,none⟩) i c,.int .i64 ((n:Int)+1-(i:Int))]).run prog w=
   .ok (.slice (some ⟨w.heap.size,0,none⟩) (n+1) (grownCap w (n+1) c 75)) (w.drew.alloc (.cells ((d.take (i*3)).toArray++Builtin.zeroCells #[.int .i64 0,.int .i64 0,.int .i64 0] (n+1-i)++Builtin.zeroCells #[.int .i64 0,.int .i64 0,.int .i64 0] (grownCap w (n+1) c 75-(n+1))) 75)):=λty=>by
  have h:=Lib.run_append_grow_zeros w 25 3 ty 75 i0 _ .i64 .i64 tS underlying3 O Q (some ⟨b,off,none⟩) i c (d.take (i*3)) p (n+1-i) (by omega) (by omega) (by omega) (by omega) (by rw[A];omega) (by rw[A,s];exact growslice_fits r (by omega));rw[s] at h;rw[C];exact h
 obtain⟨G,F⟩:∃G,G=grownCap w (n+1) c 75:=⟨_,rfl⟩
 obtain⟨ROW,k⟩:∃ROW:Array Value,ROW=(d.take (i*3)).toArray++Builtin.zeroCells #[.int .i64 0,.int .i64 0,.int .i64 0] (n+1-i)++Builtin.zeroCells #[.int .i64 0,.int .i64 0,.int .i64 0] (G-(n+1)):=⟨_,rfl⟩
 rw[<-F] at m⊢;rw[<-k] at m⊢;have R:(n+1)*3<=ROW.size:=by
  rw[k];have e1:=Ac #[.int .i64 0,.int .i64 0,.int .i64 0] (n+1-i);have e2:(#[.int .i64 0,.int .i64 0,.int .i64 0]:Array Value).size=3:=rfl;rw[e2] at e1;rw[Array.size_append,Array.size_append,e1,List.size_toArray,List.length_take];omega
 obtain⟨W1,g⟩:∃W1,W1=w.drew.alloc (.cells ROW 75):=⟨_,rfl⟩
 rw[<-g] at m;have hN:∀j,j<(n+1)*3->(W1.cell? ⟨w.heap.size,j,none⟩).isSome=true:=λj f=>by
  rw[g,World.cell?_alloc_at (w:=w.drew) ROW _ w.heap.size j rfl,Array.getElem?_eq_getElem (by omega)];rfl
 have D:∀j,W1.frozen? ⟨w.heap.size,j,none⟩=false:=λj=>by rw[g];exact World.frozen?_alloc_at (w:=w.drew) ROW _ w.heap.size j rfl
 have S:∀j v,w.cell? ⟨b,j,none⟩=some v->W1.cell? ⟨b,j,none⟩=some v:=λj v h=>by rw[g,World.cell?_alloc_past (w:=w.drew) _ b j J];exact h
 have T:∀j v,w.cell? ⟨o,j,none⟩=some v->W1.cell? ⟨o,j,none⟩=some v:=λj v h=>by rw[g,World.cell?_alloc_past (w:=w.drew) _ o j K];exact h
 have E:∀(W:World),(∀x,W.cell? x=W1.cell? x)->(∀x,W.frozen? x=W1.frozen? x)->∀ty u,(Builtin.copy_ #[25,25] ty #[.slice (some ⟨w.heap.size,i*3,none⟩) (n+1-i) u,.slice (some ⟨o,a,none⟩) 1 vc]).run prog W=.ok (goInt (Nat.min 1 (n+1-i))) (W.setCells w.heap.size (i*3) vs):=λW l y ty u=>
  Cn W _ _ ty 75 3 w.heap.size (i*3) (n+1-i) u ⟨o,a,none⟩ 1 vc vs tS B (by rw[I];simp only[Nat.min_def];split<;>omega)
   (λj v f=>by rw[Addr.add_lit,l];exact T _ v (L j v f))
   (λj f=>by rw[l];exact hN _ (by omega)) (λj f=>by rw[y];exact D _) N
 have hGn:n+1<=G:=by rw[F];exact grownCap_ge w _ _ _
 have hG63:G<=9223372036854775807:=by
  have:=grownCap_le_maxLen w (n+1) c 75 (by unfold maxLen;omega);rw[<-F] at this;unfold maxLen at this;omega
 have hGi:¬(G=i):=by omega
 have hGim:¬(G=i+1):=by omega
 have hci:¬(c=i):=by omega
 have U:b≠w.heap.size:=by omega
 have V:(d.drop (i*3)).length=(n-i)*3:=by rw[List.length_drop,H];omega
 have q:∀(W:World),(∀x,W.cell? x=(W1.setCells w.heap.size (i*3) vs).cell? x)->(∀x,W.frozen? x=(W1.setCells w.heap.size (i*3) vs).frozen? x)->∀ty u X,(Builtin.copy_ #[25,25] ty #[.slice (some ⟨w.heap.size,(i+1)*3,none⟩) (n-i) u,.slice (some ⟨b,off+i*3,none⟩) (n-i) X]).run prog W=.ok (goInt (Nat.min (n-i) (n-i))) (W.setCells w.heap.size ((i+1)*3) (d.drop (i*3))):=λW l y ty u X=>
  Cn W _ _ ty 75 3 w.heap.size ((i+1)*3) (n-i) u ⟨b,off+i*3,none⟩ (n-i) X (d.drop (i*3)) tS B (by rw[V];simp only[Nat.min_def];split<;>omega)
   (λj v f=>by
    rw[Addr.add_lit,l,World.cell?_setCells_out _ _ _ _ _ (λh _=>absurd h U),Nat.add_assoc];exact S _ v (z (i*3+j) v (by rwa[List.getElem?_drop] at f)))
   (λj f=>by rw[l];exact DR _ _ _ _ (λt ht=>hN _ (by omega)) _ (hN _ (by omega)))
   (λj f=>by rw[y,World.frozen?_setCells];exact D _) (λv hv=>M v (List.mem_of_mem_drop hv))
 subst g;have Y:∀x,((w.alloc (.cells ROW 75)).drew).cell? x=(w.drew.alloc (.cells ROW 75)).cell? x:=λx=>rfl
 have Z:∀x,((w.alloc (.cells ROW 75)).drew).frozen? x=(w.drew.alloc (.cells ROW 75)).frozen? x:=λx=>rfl
 have hF1:∀x,(((w.alloc (.cells ROW 75)).drew.setCells w.heap.size (i*3) vs).drew).cell? x=((w.drew.alloc (.cells ROW 75)).setCells w.heap.size (i*3) vs).cell? x:=λx=>rfl
 have hF2:∀x,(((w.alloc (.cells ROW 75)).drew.setCells w.heap.size (i*3) vs).drew).frozen? x=((w.drew.alloc (.cells ROW 75)).setCells w.heap.size (i*3) vs).frozen? x:=λx=>rfl
 have hw1:IntKind.i64.wrap ((i:Int)+1)=(i:Int)+1:=by rw[IntKind.wrap_i64];omega
 have hw2:IntKind.i64.wrap ((n:Int)+1)=(n:Int)+1:=by rw[IntKind.wrap_i64];omega
 have hw3:IntKind.i64.wrap ((n:Int)+1-(i:Int))=(n:Int)+1-(i:Int):=by rw[IntKind.wrap_i64];omega
 have hb1:(0:Int)<=(i:Int)+1:=by omega
 have hin:i<=n:=by omega
 have htn:((i:Int)+1).toNat=i+1:=by omega
 have hb3:(i:Int)<=(n:Int):=by omega
 have hbc:(i:Int)<=(c:Int):=by omega
 clear C s p k F R
 go_enter func69,ntmps69
 go_wp2_with (first
  |(at_builtin;refine Lib.wpList_append_run _ rfl _ _ _ _ rfl _ _ rfl rfl _ _ (m _) ?_)
  |(at_builtin;refine wpList_copy_k _ rfl _ _ 25 25 rfl _ _ rfl rfl (E _ Y Z _ _) ?_)
  |(at_builtin;refine wpList_copy_k _ rfl _ _ 25 25 rfl _ _ rfl rfl (q _ (λ_=>rfl) (λ_=>rfl) _ _ _) ?_))
 go_region_law_o (refine FC rfl _ _ 25 25 rfl (.slice (some ⟨w.heap.size,(i+1)*3,none⟩) (n-i) (G-(i+1))) (.slice (some ⟨b,off+i*3,none⟩) (n-i) (c-i)) (by simp[Act.eval,Act.put]) (by simp[Act.eval,Act.put]) (q _ hF1 hF2 3 (G-(i+1)) (c-i)) ?_)
 go_wp2
 go_ret
 exact⟨rfl,rfl⟩
