/-
  Part of the proof. No condition.
-/
import Derived.Shelf.LaysC
import Derived.Ground.GgwProg
import Derived.Test.YtkgejlchafionaaGreatDoorG1
import Derived.Lib.AtoiErrMem
import Derived.Tactics2
import Derived.Lib.ItoaNum
import Derived.Lib.Join
set_option maxRecDepth 1000000
open Go Go.Eng
noncomputable section
namespace Go.Proofs.YtkgejlchafionaaGreatDoor
open Tryz
open Nice Go.RowKit
theorem glE {v:Value} (h:bC (er false) v):v=.nilIface\/∃c d,v=.iface c d:=by
 rcases h with⟨e,_⟩|⟨b,_,a⟩|⟨k,m,a,_⟩
 ·cases e
 ·unfold ew at a
  split at a
  ·exact .inl rfl
  ·exact .inr ⟨_,_,rfl⟩
  ·cases a
 ·cases a
theorem E9 {w w':World} (h:Below w.heap.size w w'):Bx w w':=⟨h.size,h.os,h.output,λb a=>h.block b a⟩
theorem EU (s:L8):(bs s).data.toList=s:=by simp[bs]
theorem Nj (s:L8):(bs s).size=s.length:=by simp[bs,ByteArray.size]
theorem Nk {f:FuncId} {S:PSpec} (h:∀(fz:Nat->Option (Array Value)) (w:World) (args:Array Value) (x:AA S.ts),I6 FP w->Bc fz S.ts x args.toList->S.pre x=true->
  Calls prog f args w λe w'=>∃vs,e=.returned (De vs)/\Bc fz S.rs (S.g x) vs/\Bx w w'):PC f S:=by
 intro fz w args x a d l m;refine(h fz w args x d l m).mono ?_;rintro e w' ⟨vs,rfl,n,k⟩;have i:∀b c,fz b=some c->b<w.heap.size:=λb c j=>by
  obtain⟨e,fr,h⟩:=a b c j;exact(Array.getElem?_eq_some_iff.1 h).1
 exact⟨vs,fz,rfl,λ_ _ h=>h,a.keep λb c j=>k.2.2.2 b (i b c j),λ_ _ h=>.inl h,n,k⟩
theorem Jr {fz:Nat->Option (Array Value)} {t:Ty} {ts:List Ty} {x:AA (t::ts)} {l:List Value} (b:t.agg=false) (h:Bc fz (t::ts) x l):∃v r,l=v::r/\Bj fz t x.1 [v]/\Bc fz ts x.2 r:=by
 obtain⟨v,r,e,a,c⟩:=h;rcases a with⟨h,_⟩|⟨_,a⟩
 ·rw[b] at h;cases h
 ·exact⟨v,r,e,a,c⟩
open Nice
theorem tM:PC 207 ABK:=(AN (AG (l:=[]) trivial) AM func207 (by kernel_rfl) (by decide)).nice λ⟨c,()⟩ _=>vy c
theorem cb:PC 235 K8:=(AN (AG (l:=[(207,ABK)]) ⟨tM,trivial⟩) AM func235 (by kernel_rfl) (by decide)).nice λ⟨s,()⟩ h=>ABf s h
theorem nz:PC 191 Oa:=(AN (AG (l:=[(235,K8)]) ⟨cb,trivial⟩) AM func191 (by kernel_rfl) (by decide)).nice λ⟨r,s,()⟩ h=>qk r s h
theorem cc:PC 22 PG:=(AN (AG (l:=[]) trivial) AM func22 (by kernel_rfl) (by decide)).nice λ⟨s,n,()⟩ h=>vz s n (of_decide_eq_true h)
open Nice
abbrev Nl:List (Nat×List (Nat×Sh)):=[]
def Xx (x:AA [BD]):Option (AA [Ah,.int .i64]):=fO prog (AL [(138,A0),(94,CF),(95,CE)]) (AC Nl) f51 [BD] [Ah,.int .i64] x
theorem Zi (N:Nat) (a b:L8) (c:List (L8×L8×Unit)) (d:L8) {Qc}[Qc':QA (some (Dp,(400:Int),())) Qc] {Qa}[Qa':QA (bif (Bk Dp b).snd then (gd [Cs b] (bif !d==[] then Qc else (some ((Bk Dp b).fst,(0:Int),())))) else (gd [Cs b] Qc)) Qa] {Qb}[Qb':QA (CK ((0:Int),List.drop 3 a,(0:Int),[],(0:Int),[],[],[],(0:Int),false,()) CL b c d) Qb] {Qd}[Qd':QA (AY b&&AY (List.drop 3 a)) Qd]:BV prog (AL [(138,A0),(94,CF),(95,CE)]) (AC Nl) f51 [BD] [Ah,.int .i64] N ((CL,a,b,c,d,()),())= (bif a==oW then Qa else (bif a==Gc then Qa else (bif !Ax a Gc then (some (Dp,(404:Int),())) else (gd [decide ((3:Int)<=(↑a.length:Int))] (bif Qb.snd then (gd [B0 c&&Qd] (bif !d==[] then Qc else (some (Qb.fst,(0:Int),())))) else (gd [B0 c&&Qd] Qc)))))):=by obtain ⟨rfl⟩:=Qd';obtain ⟨rfl⟩:=Qb';obtain ⟨rfl⟩:=Qa';obtain ⟨rfl⟩:=Qc';kernel_rfl
theorem Zj (x:AA [BD]):Xx x=BV prog (AL [(138,A0),(94,CF),(95,CE)]) (AC Nl) f51 [BD] [Ah,.int .i64] AE x:=rfl
abbrev Kv:List (Nat×List (Nat×Sh)):=[]
def Tb (x:AA [BD]):Option (AA [Ah,.int .i64]):=fO prog (AL [(138,A0),(94,CF),(95,CE)]) (AC Kv) f51 [BD] [Ah,.int .i64] x
theorem V4 (N:Nat) (a b:L8) (c:List (L8×L8×Unit)) (d:L8) {Qc}[Qc':QA (some (Dp,(400:Int),())) Qc] {Qd}[Qd':QA (Bk ((0:Int),[],(0:Int),[],(0:Int),[],[],[],(0:Int),true,()) b) Qd] {Qa}[Qa':QA (bif Qd.snd then (gd [Cs b] (bif !d==[] then Qc else (some (Qd.fst,(0:Int),())))) else (gd [Cs b] Qc)) Qa] {Qb}[Qb':QA (CK ((0:Int),List.drop 3 a,(0:Int),[],(0:Int),[],[],[],(0:Int),true,()) Aq b c d) Qb] {Qe}[Qe':QA (AY b&&AY (List.drop 3 a)) Qe]:BV prog (AL [(138,A0),(94,CF),(95,CE)]) (AC Kv) f51 [BD] [Ah,.int .i64] N ((Aq,a,b,c,d,()),())= (bif a==oW then Qa else (bif a==Gc then Qa else (bif !Ax a Gc then (some (Dp,(404:Int),())) else (gd [decide ((3:Int)<=(↑a.length:Int))] (bif Qb.snd then (gd [B0 c&&Qe] (bif !d==[] then Qc else (some (Qb.fst,(0:Int),())))) else (gd [B0 c&&Qe] Qc)))))):=by obtain ⟨rfl⟩:=Qe';obtain ⟨rfl⟩:=Qb';obtain ⟨rfl⟩:=Qa';obtain ⟨rfl⟩:=Qd';obtain ⟨rfl⟩:=Qc';kernel_rfl
theorem V5 (x:AA [BD]):Tb x=BV prog (AL [(138,A0),(94,CF),(95,CE)]) (AC Kv) f51 [BD] [Ah,.int .i64] AE x:=rfl
abbrev Nm:List (Nat×List (Nat×Sh)):=[]
def Xy (x:AA [BD]):Option (AA [Ah,.int .i64]):=fO prog (AL [(138,A0),(94,CF),(95,CE)]) (AC Nm) f51 [BD] [Ah,.int .i64] x
theorem Zk (N:Nat) (a c:L8) (b:List (L8×L8×Unit)) (d:L8) {Qa}[Qa':QA (CK ((0:Int),List.drop 3 a,(0:Int),[],(0:Int),[],[],[],(0:Int),false,()) Bq c b d) Qa] {Qb}[Qb':QA (AY c&&AY (List.drop 3 a)) Qb]:BV prog (AL [(138,A0),(94,CF),(95,CE)]) (AC Nm) f51 [BD] [Ah,.int .i64] N ((Bq,a,c,b,d,()),())= (bif a==oW then (some (Dp,(405:Int),())) else (bif a==Gc then (some (Dp,(405:Int),())) else (bif !Ax a Gc then (some (Dp,(404:Int),())) else (gd [decide ((3:Int)<=(↑a.length:Int))] (bif Qa.snd then (gd [B0 b&&Qb] (bif !d==[] then (some (Qa.fst,(0:Int),())) else (some (Qa.fst,(0:Int),())))) else (gd [B0 b&&Qb] (some (Dp,(400:Int),())))))))):=by obtain ⟨rfl⟩:=Qb';obtain ⟨rfl⟩:=Qa';kernel_rfl
theorem Zl (x:AA [BD]):Xy x=BV prog (AL [(138,A0),(94,CF),(95,CE)]) (AC Nm) f51 [BD] [Ah,.int .i64] AE x:=rfl
abbrev Nn:List (Nat×List (Nat×Sh)):=[]
def Xz (x:AA [BD]):Option (AA [Ah,.int .i64]):=fO prog (AL [(138,A0),(94,CF),(95,CE)]) (AC Nn) f51 [BD] [Ah,.int .i64] x
theorem Zm (N:Nat) (a c:L8) (b:List (L8×L8×Unit)) (d:L8) {Qa}[Qa':QA (CK ((0:Int),List.drop 3 a,(0:Int),[],(0:Int),[],[],[],(0:Int),false,()) Bl c b d) Qa] {Qb}[Qb':QA (AY c&&AY (List.drop 3 a)) Qb]:BV prog (AL [(138,A0),(94,CF),(95,CE)]) (AC Nn) f51 [BD] [Ah,.int .i64] N ((Bl,a,c,b,d,()),())= (bif a==oW then (some (Dp,(405:Int),())) else (bif a==Gc then (some (Dp,(405:Int),())) else (bif !Ax a Gc then (some (Dp,(404:Int),())) else (gd [decide ((3:Int)<=(↑a.length:Int))] (bif Qa.snd then (gd [B0 b&&Qb] (bif !d==[] then (some (Dp,(400:Int),())) else (some (Qa.fst,(0:Int),())))) else (gd [B0 b&&Qb] (some (Dp,(400:Int),())))))))):=by obtain ⟨rfl⟩:=Qb';obtain ⟨rfl⟩:=Qa';kernel_rfl
theorem Zn (x:AA [BD]):Xz x=BV prog (AL [(138,A0),(94,CF),(95,CE)]) (AC Nn) f51 [BD] [Ah,.int .i64] AE x:=rfl
abbrev V6:List (Nat×List (Nat×Sh)):=[]
def ld (x:AA [BD]):Option (AA [Ah,.int .i64]):=fO prog (AL [(138,A0),(94,kR [Ah,.str] [Ah,.bool]),(95,kR [Ah,BD] [Ah,.bool])]) (AC V6) f51 [BD] [Ah,.int .i64] x
theorem ij (N:Nat) (a b c:L8) (d:List (L8×L8×Unit)) (e:L8) {Qa}[Qa':QA (gd [decide ((3:Int)<=(↑b.length:Int))] (none)) Qa] {Qe}[Qe':QA (some (Dp,(405:Int),())) Qe] {Qb}[Qb':QA (bif a==CL then (gd [a==Aq] (none)) else (bif a==Aq then (gd [a==Aq] (none)) else (bif a==Aq then Qe else Qe))) Qb] {Qc}[Qc':QA (bif !Ax b Gc then (some (Dp,(404:Int),())) else Qa) Qc] {Qd}[Qd':QA (bif !Ax b Gc then (some (Dp,(404:Int),())) else (bif !a==Bq then (bif !a==Bl then Qe else Qa) else Qa)) Qd] {Qf}[Qf':QA (bif a==Aq then Qc else Qc) Qf]:BV prog (AL [(138,A0),(94,kR [Ah,.str] [Ah,.bool]),(95,kR [Ah,BD] [Ah,.bool])]) (AC V6) f51 [BD] [Ah,.int .i64] N ((a,b,c,d,e,()),())= (bif b==oW then Qb else (bif b==Gc then Qb else (bif a==CL then Qf else (bif a==Aq then Qf else (bif a==Aq then Qd else Qd))))):=by obtain ⟨rfl⟩:=Qf';obtain ⟨rfl⟩:=Qd';obtain ⟨rfl⟩:=Qc';obtain ⟨rfl⟩:=Qb';obtain ⟨rfl⟩:=Qe';obtain ⟨rfl⟩:=Qa';kernel_rfl
theorem ik (x:AA [BD]):ld x=BV prog (AL [(138,A0),(94,kR [Ah,.str] [Ah,.bool]),(95,kR [Ah,BD] [Ah,.bool])]) (AC V6) f51 [BD] [Ah,.int .i64] AE x:=rfl
open Nice
abbrev Np:List (Nat×List (Nat×Sh)):=[]
def X0 (x:AA [BD]):Option (AA [.int .i64,.str,.bool]):=fO prog (AL [(191,Oa),(193,EW),(236,KJ),(101,JI)]) (AC Np) f143 [BD] [.int .i64,.str,.bool] x
theorem Zo (N:Nat) (b c d:L8) (a:List (L8×L8×Unit)) (e:L8) {Qc}[Qc':QA (A8 (An a FU).fst [34]) Qc] {Qa}[Qa':QA (D3 Qc.fst [34]) Qa] {Qb}[Qb':QA (some ((2:Int),Qa.fst,false,())) Qb] {Qd}[Qd':QA (bif Qa.snd then none else Qb) Qd] {Qe}[Qe':QA (bif Qc.snd then none else Qb) Qe]:BV prog (AL [(191,Oa),(193,EW),(236,KJ),(101,JI)]) (AC Np) f143 [BD] [.int .i64,.str,.bool] N ((b,c,d,a,e,()),())= (bif (An a FT).snd then (gd [D1 a FT] (bif (An a FU).snd then (gd [D1 a FU] (some ((0:Int),[],false,()))) else (gd [D1 a FU] (bif (An a FT).fst==[42] then (some ((1:Int),[],true,())) else (some ((1:Int),[],false,())))))) else (gd [D1 a FT] (bif (An a FU).snd then (gd [AY Qc.fst,D1 a FU] (bif (DT Qa.fst).snd then (bif Qc.snd then (bif Qc.snd then (bif Qa.snd then (bif Qa.snd then (some ((2:Int),Qa.fst,true,())) else Qb) else Qd) else Qb) else Qe) else (bif Qc.snd then (bif Qc.snd then (bif Qa.snd then (bif Qa.snd then Qb else Qb) else Qd) else Qb) else Qe))) else (gd [D1 a FU] (some ((0:Int),[],true,())))))):=by obtain ⟨rfl⟩:=Qe';obtain ⟨rfl⟩:=Qd';obtain ⟨rfl⟩:=Qb';obtain ⟨rfl⟩:=Qa';obtain ⟨rfl⟩:=Qc';kernel_rfl
theorem Zp (x:AA [BD]):X0 x=BV prog (AL [(191,Oa),(193,EW),(236,KJ),(101,JI)]) (AC Np) f143 [BD] [.int .i64,.str,.bool] AE x:=rfl
abbrev Nq:List (Nat×List (Nat×Sh)):=[]
def X1 (x:AA [Ah,BD]):Option (AA [Ah,.bool]):=fO prog (AL [(100,Az),(142,PH),(143,Oi),(193,EW)]) (AC Nq) f95 [Ah,BD] [Ah,.bool] x
theorem Zq (N:Nat) (a:Ty.Den Ah) (d f c:L8) (b:List (L8×L8×Unit)) (e:L8) {Qb}[Qb':QA (A8 c GY) Qb] {Qf}[Qf':QA (↑Qb.fst.length:Int) Qf] {Qa}[Qa':QA (AA5 Qb.fst Qf ((1:Int)) ((1099511627776:Int))) Qa] {Qg}[Qg':QA ((3:Int),a.snd.fst,Qa.fst,a.snd.snd.snd) Qg] {Qc}[Qc':QA (some (Qg,false,())) Qc] {Qh}[Qh':QA ((1:Int),a.snd.fst,Qa.fst,a.snd.snd.snd) Qh] {Qd}[Qd':QA (some (Qh,false,())) Qd] {Qe}[Qe':QA ((2:Int),a.snd.fst,a.snd.snd.fst,e,(Bf b).fst,(Bf b).snd.fst,a.snd.snd.snd.snd.snd.snd) Qe] {Qi}[Qi':QA (↑(Qb.fst.getD 0 0).toNat:Int) Qi] {Qj}[Qj':QA (bif Qb.snd then none else Qc) Qj] {Qk}[Qk':QA (bif Qb.snd then none else Qd) Qk]:BV prog (AL [(100,Az),(142,PH),(143,Oi),(193,EW)]) (AC Nq) f95 [Ah,BD] [Ah,.bool] N (a,(d,f,c,b,e,()),())= (bif isKey a.snd.fst then (gd [AY a.snd.fst] (bif d==Bq then (bif (Bf b).snd.snd then (gd [B0 b] (bif c==[] then (some (Qe,true,())) else (some (Qe,false,())))) else (gd [B0 b] (some (Qe,false,())))) else (bif d==Bl then (bif c==[] then (some (((3:Int),a.snd),true,())) else (bif Qa.snd then (gd [AY Qb.fst] (bif Qb.snd then (bif Qb.snd then (bif Qi !=48 then (gd [decide ((0:Int)<Qf)] (some (Qg,true,()))) else (gd [decide ((0:Int)<Qf)] Qc)) else Qc) else Qj)) else (gd [AY Qb.fst] (bif Qb.snd then (bif Qb.snd then Qc else Qc) else Qj)))) else (bif c==[] then (some (((1:Int),a.snd),true,())) else (bif Qa.snd then (gd [AY Qb.fst] (bif Qb.snd then (bif Qb.snd then (bif Qi !=48 then (gd [decide ((0:Int)<Qf)] (some (Qh,true,()))) else (gd [decide ((0:Int)<Qf)] Qd)) else Qd) else Qk)) else (gd [AY Qb.fst] (bif Qb.snd then (bif Qb.snd then Qd else Qd) else Qk))))))) else (gd [AY a.snd.fst] (some (a,false,())))):=by obtain ⟨rfl⟩:=Qk';obtain ⟨rfl⟩:=Qj';obtain ⟨rfl⟩:=Qi';obtain ⟨rfl⟩:=Qe';obtain ⟨rfl⟩:=Qd';obtain ⟨rfl⟩:=Qh';obtain ⟨rfl⟩:=Qc';obtain ⟨rfl⟩:=Qg';obtain ⟨rfl⟩:=Qa';obtain ⟨rfl⟩:=Qf';obtain ⟨rfl⟩:=Qb';kernel_rfl
theorem Zr (x:AA [Ah,BD]):X1 x=BV prog (AL [(100,Az),(142,PH),(143,Oi),(193,EW)]) (AC Nq) f95 [Ah,BD] [Ah,.bool] AE x:=rfl
abbrev V7:List (Nat×List (Nat×Sh)):=[]
def lg (x:AA [.str,.str]):Option (AA [.bool]):=fO prog (AL []) (AC V7) f269 [.str,.str] [.bool] x
theorem il (N:Nat) (a b:L8) {Qa}[Qa':QA (↑a.length:Int) Qa] {Qb}[Qb':QA (↑b.length:Int) Qb]:BV prog (AL []) (AC V7) f269 [.str,.str] [.bool] N (a,b,())= (bif decide (Qa>=Qb) then (bif List.drop (Qa-Qb).toNat a==b then (gd [decide ((0:Int)<=Qa-Qb),decide (Qa-Qb<=Qa),decide (Ad .i64 (Qa-Qb))] (some (true,()))) else (gd [decide ((0:Int)<=Qa-Qb),decide (Qa-Qb<=Qa),decide (Ad .i64 (Qa-Qb))] (some (false,())))) else (some (false,()))):=by obtain ⟨rfl⟩:=Qb';obtain ⟨rfl⟩:=Qa';kernel_rfl
theorem im (x:AA [.str,.str]):lg x=BV prog (AL []) (AC V7) f269 [.str,.str] [.bool] AE x:=rfl
abbrev V8:List (Nat×List (Nat×Sh)):=[]
def lh (x:AA [.str,.str]):Option (AA [.str,.bool]):=fO prog (AL [(269,KH)]) (AC V8) f236 [.str,.str] [.str,.bool] x
theorem ABl (N:Nat) (a b:L8) {Qa}[Qa':QA (↑a.length:Int) Qa] {Qb}[Qb':QA (↑b.length:Int) Qb]:BV prog (AL [(269,KH)]) (AC V8) f236 [.str,.str] [.str,.bool] N (a,b,())= (bif GX a b then (gd [decide ((0:Int)<=Qa-Qb),decide (Qa-Qb<=Qa),decide (Ad .i64 (Qa-Qb)),AY a] (some (List.take (Qa-Qb).toNat a,true,()))) else (gd [AY a] (some (a,false,())))):=by obtain ⟨rfl⟩:=Qb';obtain ⟨rfl⟩:=Qa';kernel_rfl
theorem iq (x:AA [.str,.str]):lh x=BV prog (AL [(269,KH)]) (AC V8) f236 [.str,.str] [.str,.bool] AE x:=rfl
abbrev Rl:List (Nat×List (Nat×Sh)):=[(2,[(0,(.one (.dat .str))),(1,(.one .sym)),(4,(.one .sym)),(7,(.one .sym)),(8,(.one .sym))])]
def MP (n:Nat) (t0:List (Ty.Den .str)) (t1:L8) (t4 t7 t8:Int):Option (AA [.int .i64]):=rH prog (AL []) (AC Rl) f187 [.int .i64] n 0 [(0,dt 10),(1,sy (.string (bs t1))),(4,sy (.int .i64 t4)),(7,sy (.int .i64 t7)),(8,sy (.int .i64 t8))] [.dat .str t0]
def ll (x:AA [.slice .str,.str]):Option (AA [.int .i64]):=fO prog (AL []) (AC Rl) f187 [.slice .str,.str] [.int .i64] x
theorem ir (N:Nat) (a:List (L8)) (b:L8):BV prog (AL []) (AC Rl) f187 [.slice .str,.str] [.int .i64] N (a,b,())=
 (MP N (a) (b) ((0:Int)) ((↑a.length:Int)) ((0:Int))):=by kernel_rfl
theorem iu (x:AA [.slice .str,.str]):ll x=BV prog (AL []) (AC Rl) f187 [.slice .str,.str] [.int .i64] AE x:=rfl
theorem X2 (n:Nat) (t0:List (Ty.Den .str)) (t1:L8) (t4 t7 t8:Int):MP (n+1) t0 t1 t4 t7 t8=
 (bif decide (t8<t7) then
  (bif t1==t0.getD t8.toNat Ty.str.dflt then
   (gd [decide (t8.toNat<t0.length),decide ((0:Int)<=t8),decide (t8<(↑t0.length:Int))] (some (t8,())))
  else
   (gd [decide (Ad .i64 (t8+(1:Int))),decide (t8.toNat<t0.length),decide ((0:Int)<=t8),decide (t8<(↑t0.length:Int))] (MP n (t0) (t1) (t4) (t7) (t8+(1:Int)))))
 else
  (some (Int.negSucc 0,()))):=by kernel_rfl
abbrev V9:List (Nat×List (Nat×Sh)):=[]
def ABs (x:AA [.slice .str,.str]):Option (AA [.bool]):=fO prog (AL [(187,Ub)]) (AC V9) f141 [.slice .str,.str] [.bool] x
theorem iv (N:Nat) (a:List (L8)) (b:L8):BV prog (AL [(187,Ub)]) (AC V9) f141 [.slice .str,.str] [.bool] N (a,b,())=
 (bif decide (kV a b>=(0:Int)) then
  (gd [decide (a.length<=1000)] (some (true,())))
 else
  (gd [decide (a.length<=1000)] (some (false,())))):=by kernel_rfl
theorem iw (x:AA [.slice .str,.str]):ABs x=BV prog (AL [(187,Ub)]) (AC V9) f141 [.slice .str,.str] [.bool] AE x:=rfl
abbrev Js:List (Nat×List (Nat×Sh)):=[(6,[(2,(.obj [.sym,.sym,.sym,.sym,.sym,.sym,.sym,.sym,.sym,.sym])),(4,(.obj [.sym,.sym,.sym,.sym,.sym,.sym,.sym,.sym,.sym,.sym])),(5,(.one .sym)),(6,(.one (.vec .str 9))),(21,(.one (.dat .str))),(22,(.one .sym)),(23,(.one .sym))])]
def Fe (n:Nat) (t2_0:Int) (t2_1:L8) (t2_2:Int) (t2_3:L8) (t2_4:Int) (t2_5 t2_6 t2_7:L8) (t2_8:Int) (t2_9:Bool) (t4_0:Int) (t4_1:L8) (t4_2:Int) (t4_3:L8) (t4_4:Int) (t4_5 t4_6 t4_7:L8) (t4_8:Int) (t4_9 t5:Bool) (t6:List (Ty.Den .str)) (t21:List (Ty.Den .str)) (t22 t23:Int):Option (AA [Ah,.bool]):=rH prog (AL [(100,Az),(139,JL),(140,Oh),(141,QZ),(142,PH)]) (AC Js) f94 [Ah,.bool] n 0 [(2,.pointer (some ⟨10,0,none⟩)),(4,.pointer (some ⟨11,0,none⟩)),(5,.bool t5),(6,dt 12),(21,dt 13),(22,sy (.int .i64 t22)),(23,sy (.int .i64 t23))] [.row [sy (.int .i64 t2_0),sy (.string (bs t2_1)),sy (.int .i64 t2_2),sy (.string (bs t2_3)),sy (.int .i64 t2_4),sy (.string (bs t2_5)),sy (.string (bs t2_6)),sy (.string (bs t2_7)),sy (.int .i64 t2_8),.bool t2_9] 23 false,.row [sy (.int .i64 t4_0),sy (.string (bs t4_1)),sy (.int .i64 t4_2),sy (.string (bs t4_3)),sy (.int .i64 t4_4),sy (.string (bs t4_5)),sy (.string (bs t4_6)),sy (.string (bs t4_7)),sy (.int .i64 t4_8),.bool t4_9] 23 false,.vec .str t6 9,.dat .str t21]
def X3 (x:AA [Ah,.str]):Option (AA [Ah,.bool]):=fO prog (AL [(100,Az),(139,JL),(140,Oh),(141,QZ),(142,PH)]) (AC Js) f94 [Ah,.str] [Ah,.bool] x
theorem Zs (N:Nat) (a:Ty.Den Ah) (b:L8):BV prog (AL [(100,Az),(139,JL),(140,Oh),(141,QZ),(142,PH)]) (AC Js) f94 [Ah,.str] [Ah,.bool] N (a,b,())=
 (bif b==[] then
  (some (((4:Int),a.snd.fst,a.snd.snd.fst,a.snd.snd.snd.fst,a.snd.snd.snd.snd.fst,a.snd.snd.snd.snd.snd.fst,a.snd.snd.snd.snd.snd.snd.fst,a.snd.snd.snd.snd.snd.snd.snd.fst,(20:Int),a.snd.snd.snd.snd.snd.snd.snd.snd.snd.fst,()),true,()))
 else
  (gd [Cs b&&[38]==[38]] (Fe N ((4:Int)) (a.snd.fst) (a.snd.snd.fst) (a.snd.snd.snd.fst) (a.snd.snd.snd.snd.fst) (a.snd.snd.snd.snd.snd.fst) (a.snd.snd.snd.snd.snd.snd.fst) (a.snd.snd.snd.snd.snd.snd.snd.fst) ((20:Int)) (a.snd.snd.snd.snd.snd.snd.snd.snd.snd.fst) ((0:Int)) ([]) ((0:Int)) ([]) ((0:Int)) ([]) ([]) ([]) ((0:Int)) (false) (false) ([]) (Cr b) ((↑(Cr b).length:Int)) ((0:Int))))):=by kernel_rfl
theorem Zt (x:AA [Ah,.str]):X3 x=BV prog (AL [(100,Az),(139,JL),(140,Oh),(141,QZ),(142,PH)]) (AC Js) f94 [Ah,.str] [Ah,.bool] AE x:=rfl
theorem Py (n:Nat) (t2_0:Int) (t2_1:L8) (t2_2:Int) (t2_3:L8) (t2_4:Int) (t2_5 t2_6 t2_7:L8) (t2_8:Int) (t2_9:Bool) (t4_0:Int) (t4_1:L8) (t4_2:Int) (t4_3:L8) (t4_4:Int) (t4_5 t4_6 t4_7:L8) (t4_8:Int) (t4_9 t5:Bool) (t6:List (Ty.Den .str)) (t21:List (Ty.Den .str)) (t22 t23:Int) {Qg}[Qg':QA (t21.getD t23.toNat Ty.str.dflt) Qg] {Qb}[Qb':QA (Ex Qg) Qb] {Qe}[Qe':QA (AA5 Qb.snd.fst ((2:Int)) ((1:Int)) ((20:Int))) Qe] {Qf}[Qf':QA (Fe n t2_0 t2_1 t2_2 t2_3 t2_4 t2_5) Qf] {Qd}[Qd':QA (t2_0,t2_1,t2_2,t2_3,t2_4,t2_5,t2_6,t2_7,t2_8,t2_9,()) Qd] {Qh}[Qh':QA (some (Qd,false,())) Qh] {Qi}[Qi':QA (t6++[Qb.fst]) Qi] {Qa}[Qa':QA (bif Qb.fst==HA then (bif Qe.snd then (gd [decide (Ad .i64 (t23+1)),AY Qb.snd.fst] (Qf t2_6 t2_7 (Qe.fst) t2_9 t4_0 t4_1 t4_2 t4_3 t4_4 t4_5 t4_6 t4_7 t4_8 t4_9 t5 Qi t21 t22 (t23+1))) else (gd [AY Qb.snd.fst] (some ((t2_0,t2_1,t2_2,t2_3,t2_4,t2_5,t2_6,t2_7,Qe.fst,t2_9,()),false,())))) else (bif Qb.fst==Gb then (bif Qb.snd.fst==[49] then (gd [decide (Ad .i64 (t23+1))] (Fe n ((5:Int)) t2_1 t2_2 t2_3 t2_4 t2_5 t2_6 t2_7 t2_8 t2_9 t4_0 t4_1 t4_2 t4_3 t4_4 t4_5 t4_6 t4_7 t4_8 t4_9 t5 Qi t21 t22 (t23+1))) else (some (((5:Int),t2_1,t2_2,t2_3,t2_4,t2_5,t2_6,t2_7,t2_8,t2_9,()),false,()))) else Qh)) Qa] {Qc}[Qc':QA (bif Qb.fst==GZ then (gd [decide (Ad .i64 (t23+1))] (Qf (Qb.snd.fst) t2_7 t2_8 t2_9 t4_0 t4_1 t4_2 t4_3 t4_4 t4_5 t4_6 t4_7 t4_8 t4_9 t5 Qi t21 t22 (t23+1))) else (bif Qb.fst==Ga then (gd [decide (Ad .i64 (t23+1))] (Qf t2_6 (Qb.snd.fst) t2_8 t2_9 t4_0 t4_1 t4_2 t4_3 t4_4 t4_5 t4_6 t4_7 t4_8 t4_9 t5 Qi t21 t22 (t23+1))) else Qa)) Qc]:Fe (n+1) t2_0 t2_1 t2_2 t2_3 t2_4 t2_5 t2_6 t2_7 t2_8 t2_9 t4_0 t4_1 t4_2 t4_3 t4_4 t4_5 t4_6 t4_7 t4_8 t4_9 t5 t6 t21 t22 t23= (bif decide (t23<t22) then (gd [decide (t23.toNat<t21.length),decide (0<=t23),decide (t23<t21.length)] (bif Qb.snd.snd then (gd [Cs Qg&&[61]==[61]] (bif CV t6 Qb.fst then (gd [decide (t6.length<=1000)] Qh) else (gd [decide ((2*(t6.length+[Qb.fst].length)+400)*16<=281474976710656),decide (t6.length<=1000)] (bif Qb.snd.fst==[] then Qc else (bif isKey Qb.snd.fst then (gd [AY Qb.snd.fst] Qc) else (gd [AY Qb.snd.fst] (bif Qb.fst==GZ then (some ((t2_0,t2_1,t2_2,t2_3,t2_4,t2_5,Qb.snd.fst,t2_7,t2_8,t2_9,()),false,())) else (bif Qb.fst==Ga then (some ((t2_0,t2_1,t2_2,t2_3,t2_4,t2_5,t2_6,Qb.snd.fst,t2_8,t2_9,()),false,())) else Qa)))))))) else (gd [Cs Qg&&[61]==[61]] Qh))) else (some (Qd,true,()))):=by obtain ⟨rfl⟩:=Qc';obtain ⟨rfl⟩:=Qa';obtain ⟨rfl⟩:=Qi';obtain ⟨rfl⟩:=Qh';obtain ⟨rfl⟩:=Qd';obtain ⟨rfl⟩:=Qf';obtain ⟨rfl⟩:=Qe';obtain ⟨rfl⟩:=Qb';obtain ⟨rfl⟩:=Qg';kernel_rfl
end Go.Proofs.YtkgejlchafionaaGreatDoor
namespace Nice
theorem I3 (w r:L8):Ax (w++r) w=true:=by
 unfold Ax;rw[Bool.and_eq_true,decide_eq_true_eq,List.take_left];exact⟨by simp,beq_self_eq_true w⟩
theorem Nr (c:UInt8) (a b:L8):C0 c (a++b)=(C0 c a||C0 c b):=by unfold C0;rw[List.any_append]
theorem Ns {c:UInt8}:∀{w r:L8},C0 c w=false->EI c (w++c::r)=w
 |[],r,_=>by simp[EI]
 |b::w,r,h=>by
  simp only[C0,List.any_cons,Bool.or_eq_false_iff] at h;simp only[List.cons_append,EI,h.1,cond_false];rw[Ns h.2]
theorem ix (p:L8):Ex p=bif C0 61 p then(EI 61 p,p.drop ((EI 61 p).length+1),true) else(p,[],false):=v7 61 p
theorem d21:(Ga==GZ)=false:=by decide
theorem d31:(HA==GZ)=false:=by decide
theorem d32:(HA==Ga)=false:=by decide
theorem d41:(Gb==GZ)=false:=by decide
theorem d42:(Gb==Ga)=false:=by decide
theorem d43:(Gb==HA)=false:=by decide
theorem Rm (s:L8):(DT s).2=(Fw s).2:=by
 unfold DT Fw;cases rdZ s<;>rfl
def Ff (k:L8) (b:Bool):Ak:=(0,k,0,[],0,[],[],[],0,b,())
def Lx (b:Bool):Ak:=(0,[],0,[],0,[],[],[],0,b,())
def GL (h:Bool) (q b:L8):Ak×Int:=bif (Bk (Lx h) q).2&&b==[] then((Bk (Lx h) q).1,0) else(Dp,400)
def GM (h:Bool) (m p q:L8) (a:Cg) (b:L8):Ak×Int:=
 bif (CK (Ff (p.drop 3) h) m q a b).2&&(m==Bq||b==[]) then((CK (Ff (p.drop 3) h) m q a b).1,0) else(Dp,400)
def F5 (r:JK):Ak×Int:=
 bif r.2.1==oW||r.2.1==Gc then(bif r.1==CL||r.1==Aq then GL (r.1==Aq) r.2.2.1 r.2.2.2.2.1 else(Dp,405))
 else bif Ax r.2.1 Gc then(bif (r.1==CL||r.1==Aq)||(r.1==Bq||r.1==Bl) then GM (r.1==Aq) r.1 r.2.1 r.2.2.1 r.2.2.2.1 r.2.2.2.2.1 else(Dp,405))
 else(Dp,404)
def LU (r:JK):Bool:=B0 r.2.2.2.1&&(Cs r.2.2.1&&AY r.2.1)
def xK:PSpec:=⟨[BD],[Ah,.int .i64],λx=>LU x.1,λx=>((F5 x.1).1,(F5 x.1).2,())⟩
def xL:L8:=[67,111,110,116,101,110,116,45,76,101,110,103,116,104]
def Tc:L8:=[118,101,114,115,105,111,110,115,61,49]
def n4:JK:=([],[],[],[],[],())
def cd (p:L8):List (L8):=bif p==[] then [] else [ql++p]
def WA (p:L8):List (L8):=bif p==[] then [] else [qm++p]
def Rn (m:Int):List (L8):=bif m==20 then [] else [qn++Lib.itoa m]
def FA (k:Int):List (L8):=bif k==5 then [Tc] else []
def CH (p a:L8) (m k:Int):List (L8):=cd p++(WA a++(Rn m++FA k))
def Kw (a:Ak):L8:=Lib.join (CH a.2.2.2.2.2.2.1 a.2.2.2.2.2.2.2.1 a.2.2.2.2.2.2.2.2.1 a.1) [38]
def WB (k:Int):Bool:=k==4||k==5
def Pz (k:Int) (b:Bool):L8:=bif k==2 then Bq else bif k==3 then Bl else bif b then Aq else CL
def LV (k:Int) (key:L8):L8:=bif WB k then oW else Gc++key
def Nt (a:Ak):L8:=bif WB a.1 then Kw a else bif a.2.2.1==0 then [] else GY++Lib.itoa a.2.2.1
def Td (c:Int) (t:L8):Cg:=bif c==1 then [(FT,[42],())] else bif c==2 then [(FU,[34]++t++[34],())] else []
def MQ (b:L8):Cg:=bif b==[] then [] else [(xL,Lib.itoa (b.length:Int),())]
def Ly (a:Ak):JK:=(Pz a.1 a.2.2.2.2.2.2.2.2.2.1,LV a.1 a.2.1,Nt a,Td a.2.2.2.2.1 a.2.2.2.2.2.1++MQ a.2.2.2.1,a.2.2.2.1,())
def ln (a b:Ak):Bool:=a.1==b.1&&(a.2.1==b.2.1&&(a.2.2.1==b.2.2.1&&(a.2.2.2.1==b.2.2.2.1&&(a.2.2.2.2.1==b.2.2.2.2.1&&(a.2.2.2.2.2.1==b.2.2.2.2.2.1&&(a.2.2.2.2.2.2.1==b.2.2.2.2.2.2.1&&(a.2.2.2.2.2.2.2.1==b.2.2.2.2.2.2.2.1&&(a.2.2.2.2.2.2.2.2.1==b.2.2.2.2.2.2.2.2.1&&a.2.2.2.2.2.2.2.2.2.1==b.2.2.2.2.2.2.2.2.2.1))))))))
theorem X4 {a b:Ak}:ln a b=true↔a=b:=by
 obtain⟨a0,c,a2,a3,a4,a5,d,e,f,a9,⟨⟩⟩:=a;obtain⟨g,h,i,j,k,l,m,n,o,p,⟨⟩⟩:=b;simp[ln]
def cg (a:Ak) (r:JK):JK×Bool:=bif (F5 r).2==0&&(ln (F5 r).1 a&&decide ((a.2.2.2.1.length:Int)<=300)) then(r,true) else(n4,false)
def EC (a:Ak):JK×Bool:=cg a (Ly a)
def Te (a:Ak):Bool:=a.2.1==[]&&(a.2.2.1==0&&(a.2.2.2.1==[]&&(a.2.2.2.2.1==0&&(a.2.2.2.2.2.1==[]&&(JJ a.2.2.2.2.2.2.1&&(JJ a.2.2.2.2.2.2.2.1&&(decide (1<=a.2.2.2.2.2.2.2.2.1)&&decide (a.2.2.2.2.2.2.2.2.1<=20))))))))
def Zu (a:Ak):Bool:=a.2.2.2.2.2.2.1==[]&&(a.2.2.2.2.2.2.2.1==[]&&(a.2.2.2.2.2.2.2.2.1==0&&(isKey a.2.1&&(decide (0<=a.2.2.1)&&decide (a.2.2.1<=1099511627776)))))
def WC (a:Ak):Bool:=a.2.2.2.1==[]&&(a.2.2.2.2.1==0&&a.2.2.2.2.2.1==[])
def iy (a:Ak):Bool:=decide ((a.2.2.2.1.length:Int)<=300)&&(a.2.2.1==0&&(!a.2.2.2.2.2.2.2.2.2.1&&(decide (0<=a.2.2.2.2.1)&&(decide (a.2.2.2.2.1<=2)&&(bif a.2.2.2.2.1==2 then(Fw a.2.2.2.2.2.1).2 else a.2.2.2.2.2.1==[])))))
def EV (a:Ak):Bool:=bif WB a.1 then Te a else Zu a&&(bif a.1==1 then WC a else bif a.1==3 then WC a&& !a.2.2.2.2.2.2.2.2.2.1 else bif a.1==2 then iy a else false)
def BR (n:Int):Bool:=decide (-9223372036854775808<=n)&&decide (n<=9223372036854775807)
def DV (n:Int):L8:=Lib.itoa n
def ABQ (l:List (L8)) (s:L8):L8:=Lib.join l s
def Ic (l:List (L8)) (s:L8):Bool:=decide (l.length<=140737488355328)&&decide ((Lib.join l s).length<=140737488355328)
def gw (s:L8):Bool:=decide (s.length<=1000)
def Lz (a:Ak):Bool:=gw a.2.2.2.2.2.2.1&&(gw a.2.2.2.2.2.2.2.1&&BR a.2.2.2.2.2.2.2.2.1)
def ED (a:Ak):Bool:=(gw a.2.1&&(gw a.2.2.2.1&&(gw a.2.2.2.2.2.1&&BR a.2.2.1)))&&Lz a
def Tf:PSpec:=⟨[.int .i64],[.str],λx=>BR x.1,λx=>(DV x.1,())⟩
def n5:PSpec:=⟨[.int .i64,.int .i64],[.str],λx=>BR x.1&&x.2.1==(10:Int),λx=>(DV x.1,())⟩
def Tg:PSpec:=⟨[.slice .str,.str],[.str],λx=>Ic x.1 x.2.1,λx=>(ABQ x.1 x.2.1,())⟩
def WD:PSpec:=⟨[Ah],[.str],λx=>Lz x.1,λx=>(Kw x.1,())⟩
def Nu:PSpec:=⟨[Ah],[BD,.bool],λx=>ED x.1,λx=>((EC x.1).1,(EC x.1).2,())⟩
def cj:PSpec:=⟨[Ah],[.bool],λx=>ED x.1,λx=>((EC x.1).2,())⟩
def Nv:PSpec:=⟨[Ah],[.bool],λx=>ED x.1,λx=>(EV x.1,())⟩
theorem P0 (s:L8) (c:UInt8):KD (s++[c])=KD s*10+(c.toNat-48):=by
 unfold KD;rw[List.foldl_append];rfl
theorem LW (s:L8) (c:UInt8):Cp (s++[c])=(Cp s&&Ft c):=by
 unfold Cp;rw[List.all_append];simp
theorem X5 {k:Nat} (h:k<10):(UInt8.ofNat (48+k)).toNat=48+k:=by
 rw[UInt8.toNat_ofNat'];omega
theorem Th {k:Nat} (h:k<10):Ft (UInt8.ofNat (48+k))=true:=by
 rw[Ec,X5 h];omega
theorem Ro (u:Nat):Cp (Lib.decDigits u)=true/\KD (Lib.decDigits u)=u/\Lib.decDigits u≠[]/\(1<=u->(Lib.decDigits u).getD 0 0≠48):=by
 induction u using Nat.strongRecOn with
 |_ u a=>
  by_cases h:u<10
  ·rw[Lib.decDigits_one h];refine⟨?_,?_,by simp,λf e=> ?_⟩
   ·show(Ft (UInt8.ofNat (48+u))&&true)=true;rw[Th h];rfl
   ·show 0*10+((UInt8.ofNat (48+u)).toNat-48)=u;rw[X5 h];omega
   ·have:=congrArg UInt8.toNat (show UInt8.ofNat (48+u)=48 from e);rw[X5 h] at this;have g:(48:UInt8).toNat=48:=rfl;omega
  ·obtain⟨b,i2,i3,i4⟩:=a (u/10) (by omega);rw[Lib.decDigits,dif_neg h];refine⟨?_,?_,by simp,λ_=> ?_⟩
   ·rw[LW,b,Th (by omega)];rfl
   ·rw[P0,i2,X5 (by omega)];omega
   ·have:=i4 (by omega)
    revert this i3
    generalize Lib.decDigits (u/10)=d;intro i3 this;cases d with
    |nil=>exact absurd rfl i3
    |cons c r=>exact this
theorem En (u:Nat):Lib.itoa (u:Int)=Lib.decDigits u:=by
 unfold Lib.itoa;rw[if_neg (by omega)];rfl
theorem Zv {u:Nat} (h:u<9223372036854775808):Ci (Lib.itoa (u:Int))=((u:Int),true):=by
 obtain⟨b,a,c,_⟩:=Ro u;rw[En,(ff b c).1 (by rw[a];exact h),a]
theorem P1 {u:Nat} (a lo b:Int) (h:u<9223372036854775808):AA5 (Lib.itoa (u:Int)) a lo b=((u:Int),decide (((Lib.itoa (u:Int)).length:Int)<=a)&&(decide ((u:Int)>=lo)&&decide ((u:Int)<=b))):=by
 unfold AA5;rw[Zv h];have:Cp (Lib.itoa (u:Int))=true:=by rw[En];exact(Ro u).1
 rw[this,Bool.true_and,Bool.true_and]
theorem Zw {u:Nat} (h:u<100):(Lib.itoa (u:Int)).length<=2:=by
 rw[En];by_cases a:u<10
 ·rw[Lib.decDigits_one a];exact Nat.le_succ 1
 ·rw[Lib.decDigits_two a h];exact Nat.le_refl 2
theorem ck {u:Nat} (b:1<=u) (d:u<=1099511627776):Og (GY++Lib.itoa (u:Int))=((u:Int),true):=by
 have c:A8 (GY++Lib.itoa (u:Int)) GY=(Lib.itoa (u:Int),true):=by
  unfold A8;rw[I3,cond_true,List.drop_left]
 unfold Og;rw[c];dsimp only;rw[P1 _ _ _ (by omega)];have a:((Lib.itoa (u:Int)).getD 0 0==48)=false:=by
  rw[En];exact beq_eq_false_iff_ne.2 ((Ro u).2.2.2 b)
 rw[a,decide_eq_true (Int.le_refl _),decide_eq_true (show(u:Int)>=1 by omega),decide_eq_true (show(u:Int)<=1099511627776 by omega)];rfl
theorem cl {u:Nat} (a:1<=u) (b:u<=20):AA5 (Lib.itoa (u:Int)) 2 1 20=((u:Int),true):=by
 have:=Zw (u:=u) (by omega);rw[P1 _ _ _ (by omega),decide_eq_true (show((Lib.itoa (u:Int)).length:Int)<=2 by omega),decide_eq_true (show(u:Int)>=1 by omega),decide_eq_true (show(u:Int)<=20 by omega)];rfl
theorem Zx {x t:L8} (h:C0 38 x=false):Cr (x++38::t)=x::Cr t:=by
 have a:C0 38 (x++38::t)=true:=by rw[Nr];simp[C0]
 have b:EI 38 (x++38::t)=x:=Ns h;unfold Cr;rw[Od 38 _ a,b];congr 2;rw[show x++(38:UInt8)::t=(x++[38])++t by simp,show x.length+1=(x++[38]).length by simp,List.drop_left]
theorem I4:∀(l:List (L8)),l≠[]->(∀x,x∈l->C0 38 x=false)->Cr (Lib.join l [38])=l
 |[],h,_=>absurd rfl h
 |[x],_,h=>by
  rw[Lib.join_one];exact LB 38 x (h x (by simp))
 |x::y::r,_,h=>by
  have e:Lib.join (x::y::r) [38]=x++38::Lib.join (y::r) [38]:=by
   rw[Lib.join_cons,Lib.join_cons];simp[Lib.joinTail]
  rw[e,Zx (h x (by simp)),I4 (y::r) (by simp) (λz a=>h z (by simp[a]))]
theorem ACB {k:L8} {c:UInt8} (a:Cf c=false) (h:isKey k=true):C0 c k=false:=by
 unfold isKey at h;rw[Bool.and_eq_true] at h;unfold C0;rw[List.any_eq_false];intro x b e;have:=List.all_eq_true.1 h.1 x b;rw[beq_iff_eq.1 e,a] at this;cases this
theorem X6 {k:L8} {c:UInt8} (a:Cf c=false) (h:JJ k=true):C0 c k=false:=by
 unfold JJ at h;rw[Bool.or_eq_true,beq_iff_eq] at h;rcases h with rfl|h
 ·rfl
 ·exact ACB a h
theorem ACC {s:L8} {c:UInt8} (a:Ft c=false) (h:Cp s=true):C0 c s=false:=by
 unfold C0;rw[List.any_eq_false];intro x b e;have:=List.all_eq_true.1 h x b;rw[beq_iff_eq.1 e,a] at this;cases this
theorem Jt {w p:L8} (a:C0 61 w=false):Ex ((w++[61])++p)=(w,p,true):=by
 have e:(w++[61])++p=w++(61:UInt8)::p:=by simp
 rw[ix];have b:C0 61 ((w++[61])++p)=true:=by rw[e,Nr];simp[C0]
 have c:EI 61 ((w++[61])++p)=w:=by rw[e];exact Ns a
 rw[b,c,cond_true];congr 2;rw[show w.length+1=(w++[61]).length by simp,List.drop_left]
theorem MR {p n v:L8} {r seen:List (L8)} {a b:Ak} (c:Ex p=(n,v,true)) (d:CV seen n=false) (e:HE n v a=(b,true)):BJ (p::r) seen a=BJ r (seen++[n]) b:=by
 simp only[BJ,c,d,e,cond_true,cond_false]
theorem cm (v:L8) (a:Ak):HE GZ v a=(Oe a v,JJ v):=by
 unfold HE;rw[show(GZ==GZ)=true from beq_self_eq_true _];rfl
theorem cn (v:L8) (a:Ak):HE Ga v a=(Of a v,JJ v):=by
 unfold HE;rw[d21,show(Ga==Ga)=true from beq_self_eq_true _];rfl
theorem ABR (v:L8) (a:Ak):HE HA v a=(FS a (AA5 v 2 1 20).1,(AA5 v 2 1 20).2):=by
 unfold HE;rw[d31,d32,show(HA==HA)=true from beq_self_eq_true _];rfl
theorem cq (v:L8) (a:Ak):HE Gb v a=(Di a 5,v==[49]):=by
 unfold HE;rw[d41,d42,d43,show(Gb==Gb)=true from beq_self_eq_true _];rfl
def n9 (b:Bool) (w:L8):List (L8):=bif b then [] else [w]
theorem Fg (l r:List (L8)) (x:L8):CV (l++r) x=(CV l x||CV r x):=by unfold CV;rw[List.any_append]
theorem IK (b:Bool) {w x:L8} (h:(x==w)=false):CV (n9 b w) x=false:=by
 cases b
 ·show((x==w)||false)=false;rw[h];rfl
 ·rfl
theorem oA {p:L8} (c:JJ p=true) (r seen:List (L8)) (a:Ak) (b:a.2.2.2.2.2.2.1=[]) (d:CV seen GZ=false):
  BJ (cd p++r) seen a=BJ r (seen++n9 (p==[]) GZ) (Oe a p):=by
 unfold cd n9;cases h:p==[]
 ·exact MR (Jt (w:=GZ) (p:=p) (by decide)) d (by rw[cm,c])
 ·rw[cond_true,cond_true,beq_iff_eq.1 h,List.append_nil];obtain⟨a0,e,a2,a3,a4,a5,f,g,i,a9,⟨⟩⟩:=a;dsimp only at b;subst b;rfl
theorem oB {p:L8} (c:JJ p=true) (r seen:List (L8)) (a:Ak) (b:a.2.2.2.2.2.2.2.1=[]) (d:CV seen Ga=false):
  BJ (WA p++r) seen a=BJ r (seen++n9 (p==[]) Ga) (Of a p):=by
 unfold WA n9;cases h:p==[]
 ·exact MR (Jt (w:=Ga) (p:=p) (by decide)) d (by rw[cn,c])
 ·rw[cond_true,cond_true,beq_iff_eq.1 h,List.append_nil];obtain⟨a0,e,a2,a3,a4,a5,f,g,i,a9,⟨⟩⟩:=a;dsimp only at b;subst b;rfl
theorem oC {m:Int} (d:1<=m) (e:m<=20) (r seen:List (L8)) (a:Ak) (b:a.2.2.2.2.2.2.2.2.1=20) (c:CV seen HA=false):
  BJ (Rn m++r) seen a=BJ r (seen++n9 (m==20) HA) (FS a m):=by
 unfold Rn n9;cases h:m==20
 ·obtain⟨u,rfl⟩:∃u:Nat,m=(u:Int):=⟨m.toNat,by omega⟩
  exact MR (Jt (w:=HA) (p:=Lib.itoa (u:Int)) (by decide)) c (by rw[ABR,cl (by omega) (by omega)])
 ·rw[cond_true,cond_true,beq_iff_eq.1 h,List.append_nil];obtain⟨a0,f,a2,a3,a4,a5,g,i,j,a9,⟨⟩⟩:=a;dsimp only at b;subst b;rfl
theorem iz {k:Int} (b:WB k=true) (seen:List (L8)) (a:Ak) (c:a.1=4) (d:CV seen Gb=false):
  BJ (FA k) seen a=(Di a k,true):=by
 unfold FA;cases h:k==5
 ·have:k=4:=by
   unfold WB at b;rw[h,Bool.or_false] at b;exact beq_iff_eq.1 b
  subst this;obtain⟨a0,e,a2,a3,a4,a5,f,g,i,a9,⟨⟩⟩:=a;dsimp only at c;subst c;rfl
 ·rw[cond_true,beq_iff_eq.1 h,show([Tc]:List (L8))=[Gb++[61]++[49]] from rfl];rw[MR (r:=[]) (seen:=seen) (Jt (w:=Gb) (p:=[49]) (by decide)) d (show HE Gb [49] a=(Di a 5,true) by rw[cq];rfl)];rfl
theorem GN {b:Bool} {x y:L8} (h:x∈(bif b then [] else [y])):x=y:=by
 cases b
 ·exact List.mem_singleton.1 h
 ·cases h
theorem WE {c:UInt8} {w p:L8} (a:C0 c w=false) (b:C0 c p=false):C0 c (w++p)=false:=by rw[Nr,a,b];rfl
theorem Rp {p f:L8} {m k:Int} (b:Bool) (l:JJ p=true) (n:JJ f=true) (o:1<=m) (q:m<=20) (r:WB k=true):
  Bk (Lx b) (Lib.join (CH p f m k) [38])=((k,[],0,[],0,[],p,f,m,b,()),true):=by
 have a:BJ (CH p f m k) [] (FS (Di (Lx b) 4) 20)=((k,[],0,[],0,[],p,f,m,b,()),true):=by
  unfold CH;rw[oA l _ _ _ rfl rfl,oB n _ _ _ rfl,oC o q _ _ _ rfl,iz r _ _ rfl]
  ·rfl
  ·rw[Fg,Fg,Fg,IK _ d41,IK _ d42,IK _ d43];rfl
  ·rw[Fg,Fg,IK _ d31,IK _ d32];rfl
  ·rw[Fg,IK _ d21];rfl
 have c:∀x,x∈CH p f m k->C0 38 x=false:=by
  intro x hx;unfold CH at hx;rw[List.mem_append,List.mem_append,List.mem_append] at hx;rcases hx with hx|hx|hx|hx
  ·rw[GN hx];exact WE (by decide) (X6 (by decide) l)
  ·rw[GN hx];exact WE (by decide) (X6 (by decide) n)
  ·rw[GN hx];obtain⟨u,rfl⟩:∃u:Nat,m=(u:Int):=⟨m.toNat,by omega⟩
   rw[En];exact WE (by decide) (ACC (by decide) (Ro u).1)
  ·unfold FA at hx;cases h:k==5
   ·rw[h] at hx;cases hx
   ·rw[h] at hx;rw[List.mem_singleton.1 hx];decide
 by_cases d:CH p f m k=[]
 ·rw[d] at a⊢;rw[<-a];rfl
 ·have s:(Lib.join (CH p f m k) [38]==[])=false:=by
   rw[beq_eq_false_iff_ne];intro e;have g:=I4 _ d c;rw[e] at g;have i:Cr []=[[]]:=LB 38 [] rfl;rw[i] at g;have j:([]:L8)∈CH p f m k:=by rw[<-g];simp
   unfold CH at j;rw[List.mem_append,List.mem_append,List.mem_append] at j;rcases j with hx|hx|hx|hx
   ·cases(GN hx)
   ·cases(GN hx)
   ·cases(GN hx)
   ·unfold FA at hx;cases h:k==5
    ·rw[h] at hx;cases hx
    ·rw[h] at hx;cases(List.mem_singleton.1 hx)
  unfold Bk;rw[s,cond_false,I4 _ d c];exact a
theorem ABI (w r:L8):GX (r++w) w=true:=by
 unfold GX;rw[Bool.and_eq_true,decide_eq_true_eq,List.length_append,Nat.add_sub_cancel,List.drop_left];exact⟨by omega,beq_self_eq_true w⟩
theorem cr (t:L8):Ua ([34]++t++[34])=(t,(DT t).2):=by
 have a:A8 ([34]++t++[34]) [34]=(t++[34],true):=by
  unfold A8;rw[List.append_assoc,I3,cond_true,List.drop_left]
 have b:D3 (t++[34]) [34]=(t,true):=by
  unfold D3;rw[ABI,cond_true,List.length_append,Nat.add_sub_cancel,List.take_left]
 unfold Ua;rw[a];dsimp only;rw[b];rfl
theorem yP:(Ce FT==Ce FT)=true:=by decide
theorem tN:(Ce FT==Ce FU)=false:=by decide
theorem yQ:(Ce FU==Ce FT)=false:=by decide
theorem tO:(Ce FU==Ce FU)=true:=by decide
theorem yS:(Ce xL==Ce FT)=false:=by decide
theorem yU:(Ce xL==Ce FU)=false:=by decide
theorem ct (b:L8):An (MQ b) FT=([],false):=by
 unfold MQ;cases b==[]<;>simp[An,yS]
theorem Rq (b:L8):An (MQ b) FU=([],false):=by
 unfold MQ;cases b==[]<;>simp[An,yU]
theorem Zy {c:Int} {t:L8} (b:L8) (i:0<=c) (j:c<=2) (d:(bif c==2 then(Fw t).2 else t==[])=true):Bf (Td c t++MQ b)=(c,t,true):=by
 unfold Td Bf;by_cases e:c=1
 ·subst e;have:t=[]:=beq_iff_eq.1 d;subst this;simp[An,tN,Rq]
 by_cases f:c=2
 ·subst f;have d:(Fw t).2=true:=d;have g:(DT t).2=true:=by rw[Rm];exact d
  have a:=cr t;rw[g] at a;simp only[show((2:Int)==1)=false from rfl,show((2:Int)==2)=true from rfl,cond_true,cond_false,List.cons_append,List.nil_append,An,yQ,tO,ct] at a⊢;rw[a]
 have h:c=0:=by omega
 subst h;have:t=[]:=beq_iff_eq.1 d;subst this;simp[ct,Rq]
theorem cu (b:Bool):((bif b then Aq else CL)==CL||(bif b then Aq else CL)==Aq)=true:=by cases b<;>decide
theorem lp (b:Bool):((bif b then Aq else CL)==Aq)=b:=by cases b<;>decide
theorem tP (b:Bool):((bif b then Aq else CL)==Bq)=false:=by cases b<;>decide
theorem tQ (b:Bool):((bif b then Aq else CL)==Bl)=false:=by cases b<;>decide
theorem oD {k:L8} (h:isKey k=true):(Gc++k==oW||Gc++k==Gc)=false/\Ax (Gc++k) Gc=true/\(Gc++k).drop 3=k:=by
 have b:1<=k.length:=by
  unfold isKey at h;rw[Bool.and_eq_true,Bool.and_eq_true,decide_eq_true_eq] at h;exact h.2.1
 refine⟨?_,I3 _ _,rfl⟩;rw[Bool.or_eq_false_iff,beq_eq_false_iff_ne,beq_eq_false_iff_ne];constructor
 ·intro e;have:=congrArg List.length e;rw[List.length_append] at this;have a:Gc.length=3:=rfl;have c:oW.length=2:=rfl;omega
 ·intro e;have:=congrArg List.length e;rw[List.length_append] at this;have a:Gc.length=3:=rfl;omega
theorem ABm {a:Ak} (h:EV a=true):F5 (Ly a)=(a,0)/\(a.2.2.2.1.length:Int)<=300:=by
 obtain⟨i,k,v,b,c,t,p,f,m,d,⟨⟩⟩:=a;unfold EV at h;dsimp only at h;cases j:WB i
 ·rw[j,cond_false] at h;unfold Zu at h;simp only[Bool.and_eq_true,beq_iff_eq,decide_eq_true_eq] at h;obtain⟨⟨rfl,rfl,rfl,s,K,L⟩,h⟩:=h;obtain⟨x,y,z⟩:=oD s;have l:∀n:Int,n=(i:Int)->∀(w:Bool),(bif (Nt (i,k,v,b,c,t,[],[],0,d,()))==[] then(Lh (Ff k w) n 0,true) else(Lh (Ff k w) n (Og (Nt (i,k,v,b,c,t,[],[],0,d,()))).1,(Og (Nt (i,k,v,b,c,t,[],[],0,d,()))).2))=(Lh (Ff k w) n v,true):=by
   intro n _ w;have e:Nt (i,k,v,b,c,t,[],[],0,d,())=bif v==0 then [] else GY++Lib.itoa v:=by
    unfold Nt;dsimp only;rw[j];rfl
   rw[e];cases o:v==0
   ·have o:v≠0:=beq_eq_false_iff_ne.1 o;obtain⟨u,rfl⟩:∃u:Nat,v=(u:Int):=⟨v.toNat,by omega⟩
    rw[cond_false,ck (by omega) (by omega)];have:(GY++Lib.itoa (u:Int)==[])=false:=beq_eq_false_iff_ne.2 (by intro e;cases e);rw[this];rfl
   ·have o:v=0:=beq_iff_eq.1 o;subst o;rfl
  by_cases H:i=1
  ·subst H;rw[show((1:Int)==1)=true from rfl,cond_true] at h;unfold WC at h;simp only[Bool.and_eq_true,beq_iff_eq] at h;obtain⟨rfl,rfl,rfl⟩:=h;refine⟨?_,by simp⟩;have:=l 1 rfl d;unfold Ly F5 GM CK;dsimp only[LV];rw[j,cond_false,x,cond_false,y,cond_true,z];have em:Pz 1 d=bif d then Aq else CL:=rfl
   rw[em,cu,Bool.true_or,cond_true,lp,tP];have q:(Ff k d).2.1=k:=rfl;rw[q,s,cond_true,cond_false,tQ,cond_false];have ev:(Ff k d).2.2.1=0:=rfl;rw[ev,this];rfl
  rw[beq_eq_false_iff_ne.2 H,cond_false] at h;by_cases I:i=3
  ·subst I;rw[show((3:Int)==3)=true from rfl,cond_true,Bool.and_eq_true] at h;obtain⟨h,g⟩:=h;have g:d=false:=by cases d;rfl;cases g
   subst g;unfold WC at h;simp only[Bool.and_eq_true,beq_iff_eq] at h;obtain⟨rfl,rfl,rfl⟩:=h;refine⟨?_,by simp⟩;have:=l 3 rfl false;unfold Ly F5 GM CK;dsimp only[LV];rw[j,cond_false,x,cond_false,y,cond_true,z];have em:Pz 3 false=Bl:=rfl;rw[em];have r:(Bl==CL||Bl==Aq||(Bl==Bq||Bl==Bl))=true:=by decide
   have A:(Bl==Aq)=false:=by decide
   have B:(Bl==Bq)=false:=by decide
   have M:(Bl==Bl)=true:=by decide
   rw[r,cond_true,A,B];have q:(Ff k false).2.1=k:=rfl;rw[q,s,cond_true,cond_false,M,cond_true];have ev:(Ff k false).2.2.1=0:=rfl;rw[ev,this];rfl
  rw[beq_eq_false_iff_ne.2 I,cond_false] at h;by_cases J:i=2
  ·subst J;rw[show((2:Int)==2)=true from rfl,cond_true] at h;unfold iy at h;simp only[Bool.and_eq_true,beq_iff_eq,decide_eq_true_eq] at h;obtain⟨N,rfl,g,C,D,O⟩:=h;have g:d=false:=by cases d;rfl;cases g
   subst g;refine⟨?_,N⟩;have E:=Zy b C D O;unfold Ly F5 GM CK;dsimp only[LV];rw[j,cond_false,x,cond_false,y,cond_true,z];have em:Pz 2 false=Bq:=rfl;rw[em];have r:(Bq==CL||Bq==Aq||(Bq==Bq||Bq==Bl))=true:=by decide
   have A:(Bq==Aq)=false:=by decide
   have B:(Bq==Bq)=true:=by decide
   rw[r,cond_true,A,B];have q:(Ff k false).2.1=k:=rfl;rw[q,s,cond_true,cond_true,E];have eq:Nt (2,k,0,b,c,t,[],[],0,false,())=[]:=rfl;rw[eq];rfl
  rw[beq_eq_false_iff_ne.2 J,cond_false] at h;cases h
 ·rw[j,cond_true] at h;unfold Te at h;simp only[Bool.and_eq_true,beq_iff_eq,decide_eq_true_eq] at h;obtain⟨rfl,rfl,rfl,rfl,rfl,P,Q,F,G⟩:=h;refine⟨?_,by simp⟩;have R:=Rp d P Q F G j;have eq:Nt (i,[],0,[],0,[],p,f,m,d,())=Lib.join (CH p f m i) [38]:=by
   unfold Nt;dsimp only;rw[j];rfl
  have em:Pz i d=bif d then Aq else CL:=by
   unfold WB at j;rw[Bool.or_eq_true,beq_iff_eq,beq_iff_eq] at j;rcases j with rfl|rfl<;>rfl
  unfold Ly F5 GL;dsimp only[LV];rw[j,cond_true,em,eq];have r:(oW==oW||oW==Gc)=true:=by decide
  rw[r,cond_true,cu,cond_true,lp,R];rfl
theorem X7:∀(k u:Nat),u<10^(k+1)->Lib.nDigits u<=k+1
 |0,u,h=>by rw[Lib.nDigits_small (by simpa using h)];exact Nat.le_refl _
 |k+1,u,h=>by
  by_cases a:u<10
  ·rw[Lib.nDigits_small a];omega
  ·rw[Lib.nDigits_big a];have:=X7 k (u/10) (by rw[Nat.pow_succ] at h;omega);omega
theorem cw {k u:Nat} (h:u<10^(k+1)):(Lib.itoa (u:Int)).length<=k+1:=by
 rw[En,Lib.decDigits_length];exact X7 k u h
theorem WG {p f:L8} {m k:Int} {x:L8} (hx:x∈CH p f m k):x=ql++p\/x=qm++f\/(x=qn++Lib.itoa m)\/x=Tc:=by
 unfold CH at hx;rw[List.mem_append,List.mem_append,List.mem_append] at hx;rcases hx with hx|hx|hx|hx
 ·exact .inl (GN hx)
 ·exact .inr (.inl (GN hx))
 ·exact .inr (.inr (.inl (GN hx)))
 ·unfold FA at hx;cases h:k==5
  ·rw[h] at hx;cases hx
  ·rw[h] at hx;exact .inr (.inr (.inr (List.mem_singleton.1 hx)))
def Zz (a:Ak):Prop:=WB a.1=true/\Te a=true
theorem cy {n v:L8} {a:Ak} (h:Zz a) (ok:(HE n v a).2=true):Zz (HE n v a).1:=by
 obtain⟨x,k,w,b,c,t,p,f,m,y,⟨⟩⟩:=a;obtain⟨g,i⟩:=h;unfold Te at i;simp only[Bool.and_eq_true,beq_iff_eq,decide_eq_true_eq] at g i;obtain⟨rfl,rfl,rfl,rfl,rfl,j,l,d,e⟩:=i;unfold HE at ok⊢;cases o:n==GZ
 ·rw[o,cond_false] at ok;rw[cond_false];cases q:n==Ga
  ·rw[q,cond_false] at ok;rw[cond_false];cases r:n==HA
   ·rw[r,cond_false] at ok;rw[cond_false];cases u:n==Gb
    ·rw[u,cond_false] at ok;cases ok
    ·rw[cond_true];refine⟨rfl,?_⟩;unfold Te Di;simp[j,l,d,e]
   ·rw[r,cond_true] at ok;rw[cond_true];refine⟨g,?_⟩;have s:1<=(AA5 v 2 1 20).1/\(AA5 v 2 1 20).1<=20:=by
     unfold AA5 at ok⊢;simp only[Bool.and_eq_true,decide_eq_true_eq] at ok;exact⟨ok.2.2.2.1,ok.2.2.2.2⟩
    unfold Te FS;simp[j,l,s.1,s.2]
  ·rw[q,cond_true] at ok;rw[cond_true];refine⟨g,?_⟩;unfold Te Of;have ok:JJ v=true:=ok;simp[j,ok,d,e]
 ·rw[o,cond_true] at ok;rw[cond_true];refine⟨g,?_⟩;unfold Te Oe;have ok:JJ v=true:=ok;simp[ok,l,d,e]
theorem c6:∀(l seen:List (L8)) (a:Ak),Zz a->(BJ l seen a).2=true->Zz (BJ l seen a).1
 |[],_,a,h,_=>h
 |p::r,seen,a,h,ok=>by
  simp only[BJ] at ok⊢;cases c:(Ex p).2.2
  ·rw[c] at ok;cases ok
  ·rw[c,cond_true] at ok;rw[cond_true];cases d:CV seen (Ex p).1
   ·rw[d,cond_false] at ok;rw[cond_false];cases b:(HE (Ex p).1 (Ex p).2.1 a).2
    ·rw[b] at ok;cases ok
    ·rw[b,cond_true] at ok;rw[cond_true];exact c6 r _ _ (cy h b) ok
   ·rw[d] at ok;cases ok
theorem WH (b:Bool) (q:L8) (ok:(Bk (Lx b) q).2=true):Zz (Bk (Lx b) q).1:=by
 have a:Zz (FS (Di (Lx b) 4) 20):=⟨rfl,rfl⟩
 unfold Bk at ok⊢;cases e:q==[]
 ·rw[e,cond_false] at ok;rw[cond_false];exact c6 _ _ _ a ok
 ·rw[cond_true];exact a
theorem WI (a:Cg) (h:(Bf a).2.2=true):0<=(Bf a).1/\(Bf a).1<=2/\(bif (Bf a).1==2 then(Fw (Bf a).2.1).2 else(Bf a).2.1==[])=true:=by
 unfold Bf at h⊢;cases c:(An a FT).2
 ·rw[c,cond_false] at h;rw[cond_false];cases b:(An a FU).2
  ·exact⟨show(0:Int)<=0 by decide,show(0:Int)<=2 by decide,rfl⟩
  ·rw[b,cond_true] at h;rw[cond_true];refine⟨show(0:Int)<=2 by decide,show(2:Int)<=2 by decide,?_⟩;show(Fw (Ua (An a FU).1).1).2=true;rw[<-Rm];have h:(Ua (An a FU).1).2=true:=h;unfold Ua at h⊢;simp only[Bool.and_eq_true] at h;exact h.2.2
 ·rw[c,cond_true] at h;rw[cond_true];cases b:(An a FU).2
  ·exact⟨show(0:Int)<=1 by decide,show(1:Int)<=2 by decide,rfl⟩
  ·rw[b] at h;cases h
theorem c7 (q:L8) (h:(Og q).2=true):0<=(Og q).1/\(Og q).1<=1099511627776:=by
 unfold Og AA5 at h⊢;simp only[Bool.and_eq_true,decide_eq_true_eq] at h⊢;obtain⟨⟨_,_,_,b,a⟩,_⟩:=h;exact⟨by omega,a⟩
theorem ABn {r:JK} (h:(F5 r).2=0) (a:((F5 r).1.2.2.2.1.length:Int)<=300):EV (F5 r).1=true:=by
 obtain⟨m,p,q,f,b,⟨⟩⟩:=r;unfold F5 at h a⊢;dsimp only at h a⊢;cases n:p==oW||p==Gc
 ·rw[n,cond_false] at h a;rw[cond_false];cases g:Ax p Gc
  ·rw[g] at h;cases h
  ·rw[g,cond_true] at h a;rw[cond_true];cases e:(m==CL||m==Aq)||(m==Bq||m==Bl)
   ·rw[e] at h;cases h
   ·rw[e,cond_true] at h a;rw[cond_true];unfold GM at h a⊢;cases j:(CK (Ff (p.drop 3) (m==Aq)) m q f b).2&&(m==Bq||b==[])
    ·rw[j] at h;cases h
    ·rw[j,cond_true] at a;rw[cond_true];dsimp only at a⊢;rw[Bool.and_eq_true] at j;obtain⟨ok,ob⟩:=j;unfold CK at ok a⊢;have u:∀w,(Ff (p.drop 3) w).2.1=p.drop 3:=λ_=>rfl
     rw[u] at ok a⊢;cases i:isKey (p.drop 3)
     ·rw[i] at ok;cases ok
     ·rw[i,cond_true] at ok a;rw[cond_true];cases k:m==Bq
      ·rw[k,cond_false] at ok a;rw[k,Bool.false_or] at ob;rw[cond_false];have d:(bif m==Bl then(3:Int) else 1)=1\/((bif m==Bl then(3:Int) else 1)=3/\(m==Aq)=false):=by
        cases hd:m==Bl
        ·exact .inl rfl
        ·rw[beq_iff_eq.1 hd];exact .inr ⟨rfl,by decide⟩
       have fin:∀v:Int,0<=v->v<=1099511627776->EV (Lh (Ff (p.drop 3) (m==Aq)) (bif m==Bl then 3 else 1) v)=true:=by
        intro v o s;generalize (bif m==Bl then(3:Int) else 1)=C at d;generalize (m==Aq)=D at d⊢;rcases d with rfl|⟨rfl,rfl⟩
        ·unfold EV Zu WC Lh Ff;simp[WB,i,o,s]
        ·unfold EV Zu WC Lh Ff;simp[WB,i,o,s]
       cases x:q==[]
       ·rw[x,cond_false] at ok;rw[cond_false];obtain⟨v0,y⟩:=c7 q ok;exact fin _ v0 y
       ·rw[cond_true];exact fin _ (by show(0:Int)<=0;omega) (by show(0:Int)<=_;decide)
      ·rw[k,cond_true] at ok a;rw[cond_true];have z:=beq_iff_eq.1 k;subst z;rw[show(Bq==Aq)=false from by decide] at a⊢;have a:(b.length:Int)<=300:=a;have ok:((Bf f).2.2&&q==[])=true:=ok;rw[Bool.and_eq_true] at ok;obtain⟨c0,c2,l⟩:=WI f ok.1;unfold EV Zu iy fh Ff;simp only[]
       generalize (Bf f).1=c at c0 c2 l⊢;generalize (Bf f).2.1=t at l⊢;rw[l,i,decide_eq_true a,decide_eq_true c0,decide_eq_true c2];rfl
 ·rw[n,cond_true] at h a;rw[cond_true];cases g:m==CL||m==Aq
  ·rw[g] at h;cases h
  ·rw[g,cond_true] at h a;rw[cond_true];unfold GL at h a⊢;cases e:(Bk (Lx (m==Aq)) q).2&&b==[]
   ·rw[e] at h;cases h
   ·rw[cond_true];rw[Bool.and_eq_true] at e;obtain⟨A,B⟩:=WH (m==Aq) q e.1;unfold EV;dsimp only;rw[A,cond_true,B]
theorem WJ (a:Ak):EC a=bif EV a then(Ly a,true) else(n4,false):=by
 unfold EC cg;cases h:EV a
 ·rw[cond_false];cases c:(F5 (Ly a)).2==0&&(ln (F5 (Ly a)).1 a&&decide ((a.2.2.2.1.length:Int)<=300))
  ·rfl
  ·rw[Bool.and_eq_true,Bool.and_eq_true,beq_iff_eq,X4,decide_eq_true_eq] at c;obtain⟨z,e,b⟩:=c;have:=ABn (r:=Ly a) z (by rw[e];exact b);rw[e,h] at this;cases this
 ·obtain⟨e,b⟩:=ABm h;rw[e,decide_eq_true b];rw[show ln a a=true from X4.2 rfl];rfl
abbrev fN (n:Int):Nat:=FloatKind.f64.nearest n
theorem lq:Ieee.double.signWeight=2^63:=rfl
theorem tR:Ieee.double.binade=2^52:=rfl
theorem tT:Ieee.double.infRung=2047*2^52:=by decide
theorem c8:Ieee.double.leastPlace= -1074:=by decide
theorem Z0 (x:Nat):Ieee.double.word true x=2^63+x:=by
 unfold Ieee.Format.word;rw[if_pos rfl,lq]
theorem oE (n d:Nat):Ieee.Toward.even.cut true n d=Ieee.Toward.even.cut false n d:=rfl
theorem WK (f:Ieee.Format) (m:Nat) (p:Int):f.nearest true m p=f.word true (f.nearest false m p):=by
 unfold Ieee.Format.nearest;by_cases h:m=0
 ·rw[if_pos h,if_pos h,JF]
 ·rw[if_neg h,if_neg h];simp only[JF];rw[oE]
theorem Ti (m:Nat) (p:Int):Ieee.double.nearest true m p=2^63+Ieee.double.nearest false m p:=by
 rw[WK,Z0]
theorem dA {r m:Nat} {i:Int} (h:r<2^63) (hd:Ieee.double.read r=.number false m i):Ieee.double.read (2^63+r)=.number true m i:=by
 unfold Ieee.Format.read at hd⊢
 simp only[lq,tR,tT,c8] at hd⊢
 have c:(2^63+r)/2^63%2=1:=by omega
 have d:(2^63+r)%2^63=r:=by omega
 have e:r/2^63%2=0:=by omega
 have f:r%2^63=r:=by omega
 rw[e,f] at hd
 rw[c,d]
 by_cases c1:r<2^52
 ·rw[if_pos c1] at hd⊢
  injection hd with _ a b
  rw[a,b];rfl
 ·rw[if_neg c1] at hd⊢
  by_cases c2:r<2047*2^52
  ·rw[if_pos c2] at hd⊢
   injection hd with _ a b
   rw[a,b];rfl
  ·rw[if_neg c2] at hd
   by_cases c3:r=2047*2^52
   ·rw[if_pos c3] at hd;cases hd
   ·rw[if_neg c3] at hd;cases hd
structure Rep (n:Int) (x:Nat) (k:Nat):Prop where
 d:FloatKind.f64.decode x=.number (decide (n<0)) (n.natAbs*2^k) (-(k:Int))
theorem oF {n:Nat} (c:1<=n):fN (-(n:Int))=2^63+fN (n:Int):=by
 have a:decide ((-(n:Int))<0)=true:=by rw[decide_eq_true_eq];omega
 have b:decide (((n:Int))<0)=false:=by rw[decide_eq_false_iff_not];omega
 show Ieee.double.nearest (decide ((-(n:Int))<0)) (-(n:Int)).natAbs 0=2^63+Ieee.double.nearest (decide (((n:Int))<0)) (n:Int).natAbs 0;rw[a,b,Ti,Int.natAbs_neg]
theorem Z1 {n:Nat} (b:1<=n) (c:n<2^53):fN (n:Int)<2^63:=by
 have d:=H4 b c;have a:=(Nat.log2_lt (by omega:n≠0)).1 (Nat.lt_succ_self n.log2);show FloatKind.f64.nearest (n:Int)<_;rw[Lg b c];have e:n*2^(52-n.log2)<2^53:=by
  calc n*2^(52-n.log2)<2^(n.log2+1)*2^(52-n.log2):=Nat.mul_lt_mul_of_pos_right a (Nat.two_pow_pos _)
   _=2^53:=by rw[<-Nat.pow_add];congr 1;omega
 omega
theorem rep {n:Int} (h:n.natAbs<2^53):∃k,Rep n (fN n) k:=by
 rcases Int.lt_trichotomy n 0 with b|b|b
 ·obtain⟨m,rfl⟩:∃m:Nat,n= -(m:Int):=⟨n.natAbs,by omega⟩
  rw[Int.natAbs_neg,Int.natAbs_natCast] at h;have a:1<=m:=by omega
  have c:=H4 a h;refine⟨52-m.log2,⟨?_⟩⟩;rw[oF a,Int.natAbs_neg,Int.natAbs_natCast,decide_eq_true (show(-(m:Int))<0 by omega)];refine dA (Z1 a h) ?_;refine Eq.trans (Dh a h) ?_;congr 1;omega
 ·subst b;have e:FloatKind.f64.decode (fN 0)=.number false 0 (-1074):=by decide
  obtain⟨K,d⟩:∃K:Nat,K=1074:=⟨_,rfl⟩
  refine⟨K,⟨?_⟩⟩;rw[e,Int.natAbs_zero,Nat.zero_mul,decide_eq_false (show ¬((0:Int)<0) by omega),d];rfl
 ·obtain⟨m,rfl⟩:∃m:Nat,n=(m:Int):=⟨n.natAbs,by omega⟩
  rw[Int.natAbs_natCast] at h;have a:1<=m:=by omega
  have c:=H4 a h;refine⟨52-m.log2,⟨?_⟩⟩;rw[Int.natAbs_natCast,decide_eq_false (show ¬((m:Int))<0 by omega)];refine Eq.trans (Dh a h) ?_;congr 1;omega
theorem Tj {m s:Nat} (h:1<=m):(m*2^s).log2=m.log2+s:=by
 have a:=Nat.log2_self_le (by omega:m≠0);have b:=(Nat.log2_lt (by omega:m≠0)).1 (Nat.lt_succ_self m.log2);have c:0<m*2^s:=Nat.mul_pos h (Nat.two_pow_pos s);apply Nat.le_antisymm
 ·have:(m*2^s).log2<m.log2+s+1:=(Nat.log2_lt (by omega)).2 (by
   calc m*2^s<2^(m.log2+1)*2^s:=Nat.mul_lt_mul_of_pos_right b (Nat.two_pow_pos _)
    _=2^(m.log2+s+1):=by rw[<-Nat.pow_add];congr 1;omega)
  omega
 ·exact(Nat.le_log2 (by omega)).2 (by
   calc 2^(m.log2+s)=2^m.log2*2^s:=Nat.pow_add ..
    _<=m*2^s:=Nat.mul_le_mul_right _ a)
theorem Nw {n d:Nat} (q:Nat) (h:n=q*2^d) (hd:d<=n.log2+2) (neg:Bool):Ieee.Toward.even.cut neg n d=q:=by
 unfold Ieee.Toward.cut;have e:(1<<<min d (n.log2+2):Nat)=2^d:=by rw[Nat.min_eq_left hd,Nat.shiftLeft_eq,Nat.one_mul]
 have a:=Nat.two_pow_pos d;have b:n/2^d=q:=by rw[h];exact Nat.mul_div_cancel _ a
 have c:n%2^d=0:=by rw[h];exact Nat.mul_mod_left ..
 simp only[e,b,c,Nat.mul_zero];have c1:decide (2^d<0)=false:=rfl;have c2:((2^d:Nat)==0)=false:=beq_eq_false_iff_ne.2 (by omega);rw[c1,c2];rfl
theorem WL {m s:Nat} (f:m<2^53) (neg:Bool):Ieee.double.nearest neg (m*2^s) (-(s:Int))=Ieee.double.nearest neg m 0:=by
 rcases Nat.eq_zero_or_pos m with rfl|c
 ·rw[Nat.zero_mul];unfold Ieee.Format.nearest;rw[if_pos rfl,if_pos rfl]
 have k:=H4 c f;have g:m*2^s≠0:=Nat.ne_of_gt (Nat.mul_pos c (Nat.two_pow_pos s));have d:=Tj (s:=s) c;unfold Ieee.Format.nearest;rw[if_neg g,if_neg (by omega),d];have e:(Ieee.double.fractionBits:Int)=52:=rfl;have h:max (-(s:Int)+((m.log2+s:Nat):Int)-(Ieee.double.fractionBits:Int)) Ieee.double.leastPlace=(m.log2:Int)-52:=by rw[c8,e];omega
 have a2:max ((0:Int)+(m.log2:Int)-(Ieee.double.fractionBits:Int)) Ieee.double.leastPlace=(m.log2:Int)-52:=by rw[c8,e];omega
 simp only[h,a2];have i:Ieee.Toward.even.cut neg (m<<<((0:Int)-((m.log2:Int)-52)).toNat) (((m.log2:Int)-52)-0).toNat=m*2^(52-m.log2):=by
  have a:((0:Int)-((m.log2:Int)-52)).toNat=52-m.log2:=by omega
  have b:(((m.log2:Int)-52)-0).toNat=0:=by omega
  rw[a,b,Nat.shiftLeft_eq];exact Nw _ (by rw[Nat.pow_zero,Nat.mul_one]) (by omega) neg
 have j:Ieee.Toward.even.cut neg ((m*2^s)<<<(-(s:Int)-((m.log2:Int)-52)).toNat) (((m.log2:Int)-52)- -(s:Int)).toNat=m*2^(52-m.log2):=by
  by_cases l:s<=52-m.log2
  ·have a:(-(s:Int)-((m.log2:Int)-52)).toNat=52-m.log2-s:=by omega
   have b:(((m.log2:Int)-52)- -(s:Int)).toNat=0:=by omega
   rw[a,b,Nat.shiftLeft_eq];refine Nw _ ?_ (by omega) neg;rw[Nat.pow_zero,Nat.mul_one,Nat.mul_assoc,<-Nat.pow_add];congr 2;omega
  ·have a:(-(s:Int)-((m.log2:Int)-52)).toNat=0:=by omega
   have b:(((m.log2:Int)-52)- -(s:Int)).toNat=s-(52-m.log2):=by omega
   rw[a,b,Nat.shiftLeft_eq,Nat.pow_zero,Nat.mul_one];refine Nw _ ?_ (by rw[d];omega) neg;rw[Nat.mul_assoc,<-Nat.pow_add];congr 2;omega
 rw[j,i]
theorem FB {n:Int} {s:Nat} (h:n.natAbs<2^53):FloatKind.f64.format.write (.number (decide (n<0)) (n.natAbs*2^s) (-(s:Int)))=fN n:=WL h _
theorem DO {n:Int} {k u:Nat}:Ieee.signed (decide (n<0)) (n.natAbs*2^k) u=n*2^(k+u):=by
 unfold Ieee.signed;have e:((n.natAbs*2^k)<<<u:Nat)=n.natAbs*2^(k+u):=by rw[Nat.shiftLeft_eq,Nat.mul_assoc,<-Nat.pow_add]
 have a:((n.natAbs*2^(k+u):Nat):Int)=(n.natAbs:Int)*2^(k+u):=by rw[Int.natCast_mul,Int.natCast_pow];rfl
 rw[e,a];generalize (2:Int)^(k+u)=p;by_cases h:n<0
 ·rw[if_pos (decide_eq_true h),<-Int.neg_mul,show -(n.natAbs:Int)=n by omega]
 ·rw[if_neg (by rw[decide_eq_false h];decide),show(n.natAbs:Int)=n by omega]
theorem ABo {a b:Int} {x y k l:Nat} (j:Rep a x k) (m:Rep b y l) (h:(a+b).natAbs<2^53) (n:¬(a<0/\b<0/\a+b=0)):(((FloatKind.f64.format.read x).sum (FloatKind.f64.format.read y)).map FloatKind.f64.format.write)=some (fN (a+b)):=by
 have o:FloatKind.f64.format.read x=_:=j.d;have p:FloatKind.f64.format.read y=_:=m.d;rw[o,p];unfold Ieee.Datum.sum;simp only[Option.map_some];have c:min (-(k:Int)) (-(l:Int))= -((max k l:Nat):Int):=by omega
 have q:(-(k:Int)- -((max k l:Nat):Int)).toNat=max k l-k:=by omega
 have r:(-(l:Int)- -((max k l:Nat):Int)).toNat=max k l-l:=by omega
 rw[c,q,r,DO,DO,show k+(max k l-k)=max k l by omega,show l+(max k l-l)=max k l by omega,<-Int.add_mul];have g:(0:Int)<2^max k l:=Int.pow_pos (by decide);have s:((a+b)*2^max k l).natAbs=(a+b).natAbs*2^max k l:=by
  rw[Int.natAbs_mul,Int.natAbs_pow];rfl
 have t:(if(a+b)*2^max k l=0 then(decide (a<0)&&decide (b<0)) else decide ((a+b)*2^max k l<0))=decide (a+b<0):=by
  by_cases e:a+b=0
  ·rw[e,Int.zero_mul,if_pos rfl];by_cases i:a<0
   ·by_cases c:b<0
    ·exact absurd ⟨i,c,e⟩ n
    ·rw[decide_eq_false c,Bool.and_false];rfl
   ·rw[decide_eq_false i];rfl
  ·have f:(a+b)*2^max k l≠0:=Int.mul_ne_zero e (by omega);rw[if_neg f,decide_eq_decide];constructor
   ·intro h;by_cases u:a+b<0
    ·exact u
    ·have:=Int.mul_nonneg (show 0<=a+b by omega) (Int.le_of_lt g);omega
   ·intro h;exact Int.mul_neg_of_neg_of_pos h g
 rw[s,t,FB h]
theorem yV {a b:Int} (e:0<=a) (f:0<=b) (h:a+b<9007199254740992):lX .add (fN a) (fN b)=some (fN (a+b)):=by
 obtain⟨k,c⟩:=rep (n:=a) (by omega);obtain⟨l,d⟩:=rep (n:=b) (by omega);exact ABo c d (by omega) (by omega)
theorem yW {a b:Int} (s:0<=a) (f:0<=b) (y:a<9007199254740992) (z:b<9007199254740992):lX .sub (fN a) (fN b)=some (fN (a-b)):=by
 obtain⟨k,q⟩:=rep (n:=a) (by omega);obtain⟨l,t⟩:=rep (n:=b) (by omega);rcases Int.lt_or_eq_of_le f with f|f
 ·obtain⟨A,B⟩:=rep (n:= -b) (by omega);have e:(FloatKind.f64.format.read (fN b)).opposite=.number (decide (-b<0)) ((-b).natAbs*2^l) (-(l:Int)):=by
   have d:FloatKind.f64.format.read (fN b)=_:=t.d;rw[d,decide_eq_false (show ¬b<0 by omega),decide_eq_true (show -b<0 by omega),Int.natAbs_neg];rfl
  have i:FloatKind.f64.format.read (fN a)=_:=q.d;show((FloatKind.f64.format.read (fN a)).sum (FloatKind.f64.format.read (fN b)).opposite).map FloatKind.f64.format.write=_;rw[e,i];unfold Ieee.Datum.sum;simp only[Option.map_some];have c:min (-(k:Int)) (-(l:Int))= -((max k l:Nat):Int):=by omega
  have j:(-(k:Int)- -((max k l:Nat):Int)).toNat=max k l-k:=by omega
  have v:(-(l:Int)- -((max k l:Nat):Int)).toNat=max k l-l:=by omega
  rw[c,j,v,DO,DO,show k+(max k l-k)=max k l by omega,show l+(max k l-l)=max k l by omega,<-Int.add_mul,<-Int.sub_eq_add_neg];have g:(0:Int)<2^max k l:=Int.pow_pos (by decide);have m:((a-b)*2^max k l).natAbs=(a-b).natAbs*2^max k l:=by
   rw[Int.natAbs_mul,Int.natAbs_pow];rfl
  have o:(if(a-b)*2^max k l=0 then(decide (a<0)&&decide (-b<0)) else decide ((a-b)*2^max k l<0))=decide (a-b<0):=by
   by_cases r:a-b=0
   ·rw[r,Int.zero_mul,if_pos rfl,decide_eq_false (show ¬a<0 by omega)];rfl
   ·have p:(a-b)*2^max k l≠0:=Int.mul_ne_zero r (by omega);rw[if_neg p,decide_eq_decide];constructor
    ·intro h;by_cases w:a-b<0
     ·exact w
     ·have:=Int.mul_nonneg (show 0<=a-b by omega) (Int.le_of_lt g);omega
    ·intro h;exact Int.mul_neg_of_neg_of_pos h g
  rw[m,o,FB (by omega)]
 ·subst f;have e:(FloatKind.f64.format.read (fN 0)).opposite=.number true 0 (-1074):=by decide
  have i:FloatKind.f64.format.read (fN a)=_:=q.d;show((FloatKind.f64.format.read (fN a)).sum (FloatKind.f64.format.read (fN 0)).opposite).map FloatKind.f64.format.write=_;rw[e,i];unfold Ieee.Datum.sum;simp only[Option.map_some];have c:min (-(k:Int)) (-1074:Int)= -((max k 1074:Nat):Int):=by omega
  have j:(-(k:Int)- -((max k 1074:Nat):Int)).toNat=max k 1074-k:=by omega
  have z0:∀u,Ieee.signed true 0 u=0:=λu=>by unfold Ieee.signed;simp
  rw[c,j,DO,z0,Int.add_zero,show k+(max k 1074-k)=max k 1074 by omega,Int.sub_zero];have g:(0:Int)<2^max k 1074:=Int.pow_pos (by decide);have m:(a*2^max k 1074).natAbs=a.natAbs*2^max k 1074:=by
   rw[Int.natAbs_mul,Int.natAbs_pow];rfl
  have x:=Int.mul_nonneg s (Int.le_of_lt g);have o:(if a*2^max k 1074=0 then(decide (a<0)&&true) else decide (a*2^max k 1074<0))=decide (a<0):=by
   rw[decide_eq_false (show ¬a<0 by omega),decide_eq_false (show ¬a*2^max k 1074<0 by omega)]
   split<;>rfl
  rw[m,o,FB (by omega)]
theorem yX {a b:Int} (c:0<=a) (e:0<=b) (r:a<9007199254740992) (s:b<9007199254740992) (h:a*b<9007199254740992):lX .mul (fN a) (fN b)=some (fN (a*b)):=by
 obtain⟨k,f⟩:=rep (n:=a) (by omega);obtain⟨l,g⟩:=rep (n:=b) (by omega);have i:FloatKind.f64.format.read (fN a)=_:=f.d;have j:FloatKind.f64.format.read (fN b)=_:=g.d;have m:=Int.mul_nonneg c e;show((FloatKind.f64.format.read (fN a)).product (FloatKind.f64.format.read (fN b))).map FloatKind.f64.format.write=_
 rw[i,j];unfold Ieee.Datum.product;simp only[Option.map_some];have o:a.natAbs*2^k*(b.natAbs*2^l)=(a*b).natAbs*2^(k+l):=by
  rw[Int.natAbs_mul,Nat.pow_add,Nat.mul_mul_mul_comm]
 have p: -(k:Int)+ -(l:Int)= -((k+l:Nat):Int):=by omega
 have q:(decide (a<0)^^decide (b<0))=decide (a*b<0):=by
  rw[decide_eq_false (show ¬a<0 by omega),decide_eq_false (show ¬b<0 by omega),decide_eq_false (show ¬a*b<0 by omega)];rfl
 rw[o,p,q,FB (by omega)]
theorem oG {a b:Int} (f:a.natAbs<2^53) (g:b.natAbs<2^53):FloatKind.f64.format.order (fN a) (fN b)=some (compare a b):=by
 obtain⟨k,i⟩:=rep f;obtain⟨l,j⟩:=rep g;have m:FloatKind.f64.format.read (fN a)=_:=i.d;have n:FloatKind.f64.format.read (fN b)=_:=j.d;show Ieee.Datum.order (FloatKind.f64.format.read (fN a)) (FloatKind.f64.format.read (fN b))=_;rw[m,n];unfold Ieee.Datum.order;have c:min (-(k:Int)) (-(l:Int))= -((max k l:Nat):Int):=by omega
 have o:(-(k:Int)- -((max k l:Nat):Int)).toNat=max k l-k:=by omega
 have p:(-(l:Int)- -((max k l:Nat):Int)).toNat=max k l-l:=by omega
 simp only[c,o,p];rw[DO,DO,show k+(max k l-k)=max k l by omega,show l+(max k l-l)=max k l by omega];have e:(0:Int)<2^max k l:=Int.pow_pos (by decide);congr 1;rcases Int.lt_trichotomy a b with h|h|h
 ·rw[Int.compare_eq_lt.2 h,Int.compare_eq_lt];exact Int.mul_lt_mul_of_pos_right h e
 ·rw[h,Int.compare_eq_eq.2 rfl,Int.compare_eq_eq.2 rfl]
 ·rw[Int.compare_eq_gt.2 h,Int.compare_eq_gt];exact Int.mul_lt_mul_of_pos_right h e
theorem Z2 {m k:Nat} (s:Bool):Ieee.Toward.zero.cut s (m*2^k) k=m:=by
 unfold Ieee.Toward.cut;simp only[Bool.toNat_false,Nat.add_zero];rcases Nat.eq_zero_or_pos m with rfl|a
 ·rw[Nat.zero_mul,Nat.zero_div]
 ·have b:=Tj (s:=k) a;rw[Nat.min_eq_left (by omega),Nat.shiftLeft_eq,Nat.one_mul];exact Nat.mul_div_cancel _ (Nat.two_pow_pos k)
theorem Ju {n:Int} {x k:Nat} (h:Rep n x k):(FloatKind.f64.decode x).integral .zero=.number (decide (n<0)) n.natAbs 0:=by
 rw[h.d];unfold Ieee.Datum.integral;have a:(-(k:Int)).toNat=0:=by omega
 have b:(- -(k:Int)).toNat=k:=by omega
 simp only[a,b,Nat.shiftLeft_zero,Z2]
theorem WM {n:Int} (h:n.natAbs<2^53):ER (fN n)=fN n/\BH (fN n)=true:=by
 obtain⟨k,r⟩:=rep h;constructor
 ·unfold ER;rw[Ju r];rfl
 ·unfold BH;rw[r.d]
theorem jA {n:Int} (h:n.natAbs<2^53):Rb (fN n) .i64=some n:=by
 obtain⟨k,r⟩:=rep h;unfold Rb Ieee.Datum.toInt;rw[Ju r];have e:Ieee.signed (decide (n<0)) n.natAbs 0=n:=by
  have:=DO (n:=n) (k:=0) (u:=0);rw[Nat.pow_zero,Nat.mul_one] at this;rw[this];simp
 simp only[e];have a:(IntKind.i64.min<=n/\n<=IntKind.i64.max):=by
  have b:IntKind.i64.min= -9223372036854775808:=by decide
  have c:IntKind.i64.max=9223372036854775807:=by decide
  rw[b,c];omega
 rw[decide_eq_true a];rfl
theorem dB {n a b:Int} (h:n.natAbs<2^53) (e:a.natAbs<2^53) (f:b.natAbs<2^53):Cq (fN n) (fN a) (fN b)=(decide (a<=n)&&decide (n<=b)):=by
 have g:=oG h h;unfold Cq Kq;simp only[(WM h).1,oG h e,oG h f,g,Int.compare_eq_eq.2 rfl];rcases Int.lt_trichotomy n a with d|d|d
 ·rw[Int.compare_eq_lt.2 d,decide_eq_false (show ¬a<=n by omega)];rfl
 ·rw[Int.compare_eq_eq.2 d,decide_eq_true (show a<=n by omega)];rcases Int.lt_trichotomy n b with c|c|c
  ·rw[Int.compare_eq_lt.2 c,decide_eq_true (show n<=b by omega)];rfl
  ·rw[Int.compare_eq_eq.2 c,decide_eq_true (show n<=b by omega)];rfl
  ·rw[Int.compare_eq_gt.2 c,decide_eq_false (show ¬n<=b by omega)];rfl
 ·rw[Int.compare_eq_gt.2 d,decide_eq_true (show a<=n by omega)];rcases Int.lt_trichotomy n b with c|c|c
  ·rw[Int.compare_eq_lt.2 c,decide_eq_true (show n<=b by omega)];rfl
  ·rw[Int.compare_eq_eq.2 c,decide_eq_true (show n<=b by omega)];rfl
  ·rw[Int.compare_eq_gt.2 c,decide_eq_false (show ¬n<=b by omega)];rfl
