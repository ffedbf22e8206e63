/-
  Part of the proof. No condition.
-/
import Derived.Test.YtkgejlchafionaaGreatDoorG6
set_option maxRecDepth 1000000
open Go Go.Eng
noncomputable section
namespace Nice
def Ll (s:O2) (a:L8->BS):BS:=bif Gm s then gd [Eu s] (a Y5) else gd [Eu s] (sO [])
abbrev zd (t k:L8) (i:Int):List Bool:=[decide (Ad .i64 (i+1)),decide (t.length+(FW k).length<=1099511627776),decide ((Mj++k).length+7<=1099511627776),decide (6+k.length<=1099511627776)]
theorem me {t k:L8} {i:Int} (a:0<=i) (b:i<=1099511627776) (c:t.length<=549755813888) (d:k.length<=40) {α:Type} (q:List Bool) (y:Option α):gd (zd t k i++q) y=gd q y:=by
 have e:(FW k).length=13+k.length:=by
  unfold FW;rw[List.length_append,List.length_append,show Mj.length=6 from rfl,show Ee.length=7 from rfl];omega
 have f:(Mj++k).length=6+k.length:=by rw[List.length_append,show Mj.length=6 from rfl]
 unfold zd;simp only[List.cons_append,List.nil_append];rw[AP (AH.2 ⟨by omega,by omega⟩),AP (by omega),AP (by omega),AP (by omega)]
def ABB (k:List (L8)) (t:L8) (m i:Int) (a:L8->BS) (b:BS):BS:=
 bif decide (i<m) then gd (zd t (k.getD i.toNat Ty.str.dflt) i++gI k i) (a (t++FW (k.getD i.toNat Ty.str.dflt))) else b
def W7 (l:List AD) (t:L8) (m i:Int) (a:L8->BS) (b:BS):BS:=
 bif decide (i<m) then gd ([decide (Ad .i64 (i+1)),decide (t.length+(Io ((l.getD i.toNat (AB).dflt).1,(l.getD i.toNat (AB).dflt).2.1,())).length<=1099511627776),Bh ((l.getD i.toNat (AB).dflt).1,(l.getD i.toNat (AB).dflt).2.1,())]++gI l i) (a (t++Io ((l.getD i.toNat (AB).dflt).1,(l.getD i.toNat (AB).dflt).2.1,()))) else b
def xr (b:Bool) (x t:L8):BS:=
 bif b then gd [decide ((t++(IZ++x++Mk)).length+7<=1099511627776),decide (t.length+(IZ++x++Mk).length<=1099511627776),decide ((IZ++x).length+7<=1099511627776),decide (6+x.length<=1099511627776)] (sO (t++(IZ++x++Mk)++Q6))
 else gd [decide (t.length+7<=1099511627776)] (sO (t++Q6))
theorem mf (b:Bool) {x t:L8} (c:x.length<=40) (d:t.length<=549755813888):xr b x t=some (t++PZ b x++Q6,()):=by
 have a:(IZ++x++Mk).length=13+x.length:=by
  rw[List.length_append,List.length_append,show IZ.length=6 from rfl,show Mk.length=7 from rfl];omega
 have e:(IZ++x).length=6+x.length:=by rw[List.length_append,show IZ.length=6 from rfl]
 have f:(t++(IZ++x++Mk)).length=t.length+(13+x.length):=by rw[List.length_append,a]
 unfold xr;cases b
 ·rw[xF,AP (by omega),xG];show sO _=sO (t++[]++Q6);rw[List.append_nil]
 ·rw[xT,AP (by omega),AP (by omega),AP (by omega),AP (by omega),xG];rfl
theorem Qq {s:O2} (h:Gm s=true):(∀k,k∈s.1->isKey k=true)/\(∀e,e∈s.2.1->Bh e=true)/\s.1.length<=20/\s.2.1.length<=20/\s.2.2.2.1.length<=40:=by
 unfold Gm at h;rw[Bool.and_eq_true,Bool.and_eq_true,Bool.and_eq_true,Bool.and_eq_true,decide_eq_true_eq,List.all_eq_true] at h;obtain⟨_,i,m,o,f⟩:=h;have n:(B7 s.1 s.2.1).length=s.1.length+s.2.1.length:=by unfold B7;rw[List.length_append,List.length_map]
 have hall:∀(l:List (L8)) (t:L8),Fp t l=true->∀k,k∈l->isKey k=true:=λl=>by
  induction l with
  |nil=>intro t _ k c;cases c
  |cons a l g=>
   intro t b k c;rw[DG,Bool.and_eq_true,Bool.and_eq_true] at b;rcases List.mem_cons.1 c with rfl|c
   ·exact b.1
   ·exact g a b.2.2 k c
 have d:∀(l:List (L8)) (t:L8),t.length<=40->Fp t l=true->(ET t l).length<=40:=λl=>by
  induction l with
  |nil=>intro t b _;exact b
  |cons a l g=>
   intro t _ b;rw[DG,Bool.and_eq_true,Bool.and_eq_true] at b;exact g a (Eb b.1) b.2.2
 refine⟨λk c=>hall _ [] i k (List.mem_append_left _ c),m,by omega,by omega,?_⟩;cases j:s.2.2.1
 ·rw[j,xF,beq_iff_eq] at f;rw[f];exact Nat.zero_le _
 ·rw[j,xT,Bool.and_eq_true,beq_iff_eq] at f;rw[f.2];exact d _ [] (Nat.zero_le _) i
end Nice
namespace Go.Proofs.YtkgejlchafionaaGreatDoor
open Tryz
open Nice Go.RowKit
abbrev W8:List (Nat×List (Nat×Sh)):=[(5,[(1,(.obj [(.dat .str),(.dat AB),.sym,.sym])),(2,(.one .sym)),(3,(.one .sym)),(12,(.one (.dat .str))),(13,(.one .sym)),(14,(.one .sym))]),(10,[(1,(.obj [(.dat .str),(.dat AB),.sym,.sym])),(2,(.one .sym)),(3,(.one .sym)),(25,(.one (.dat AB))),(26,(.one .sym)),(27,(.one .sym))])]
def ao (N:Nat) (n:List (L8)) (l:List AD) (b:Bool) (x t:L8) (k:List (L8)) (m i:Int):BS:=rH prog (AL [(119,Hy),(120,LG)]) (AC W8) f78 [.str] N 0 [(1,.pointer (some ⟨12,0,none⟩)),(2,sy (.string (bs []))),(3,sy (.string (bs t))),(12,dt 13),(13,sy (.int .i64 m)),(14,sy (.int .i64 i))] [.dat .str n,.dat AB l,.row [dt 10,dt 11,.bool b,sy (.string (bs x))] 139 false,.dat .str k]
def Ur (N:Nat) (n:List (L8)) (l:List AD) (b:Bool) (x t:L8) (k:List AD) (m i:Int):BS:=rH prog (AL [(119,Hy),(120,LG)]) (AC W8) f78 [.str] N 1 [(1,.pointer (some ⟨12,0,none⟩)),(2,sy (.string (bs []))),(3,sy (.string (bs t))),(25,dt 13),(26,sy (.int .i64 m)),(27,sy (.int .i64 i))] [.dat .str n,.dat AB l,.row [dt 10,dt 11,.bool b,sy (.string (bs x))] 139 false,.dat AB k]
def osp (x:AA [Gz]):BS:=fO prog (AL [(119,Hy),(120,LG)]) (AC W8) f78 [Gz] [.str] x
theorem wC (x:AA [Gz]):osp x=BV prog (AL [(119,Hy),(120,LG)]) (AC W8) f78 [Gz] [.str] AE x:=rfl
theorem qt (N:Nat) (n:List (L8)) (l:List AD) (x:L8):BV prog (AL [(119,Hy),(120,LG)]) (AC W8) f78 [Gz] [.str] N ((n,l,true,x,()),())=Ll (n,l,true,x,()) (λt=>ao N n l true x t n (n.length:Int) 0):=by kernel_rfl
theorem qu (N:Nat) (n:List (L8)) (l:List AD) (x:L8):BV prog (AL [(119,Hy),(120,LG)]) (AC W8) f78 [Gz] [.str] N ((n,l,false,x,()),())=Ll (n,l,false,x,()) (λt=>ao N n l false x t n (n.length:Int) 0):=by kernel_rfl
theorem wD (N:Nat) (n:List (L8)) (l:List AD) (b:Bool) (x t:L8) (k:List (L8)) (m i:Int):ao (N+1) n l b x t k m i=ABB k t m i (λa=>ao N n l b x a k m (i+1)) (Ur N n l b x t l (l.length:Int) 0):=by kernel_rfl
theorem wE (N:Nat) (n:List (L8)) (l:List AD) (b:Bool) (x t:L8) (k:List AD) (m i:Int):Ur (N+1) n l b x t k m i=W7 k t m i (λa=>Ur N n l b x a k m (i+1)) (xr b x t):=by kernel_rfl
theorem wF (n:List (L8)) (l:List AD) (b:Bool) (x:L8) (d:x.length<=40) (o:l.length<=20) (f:∀e,e∈l->Bh e=true):∀(r i N:Nat) (t:L8),l.length=i+r->r<N->t.length+1000*r<=549755813888->Ur N n l b x t l (l.length:Int) (i:Int)=some (t++(l.drop i).flatMap Io++PZ b x++Q6,()):=by
 intro r
 induction r with
 |zero=>
  intro i N t g hN h;obtain⟨N,rfl⟩:∃m,N=m+1:=⟨N-1,by omega⟩
  rw[wE];unfold W7;rw[Av (by omega),List.drop_eq_nil_of_le (by omega),mf b d (by omega)];simp
 |succ r j=>
  intro i N t g hN h;obtain⟨N,rfl⟩:∃m,N=m+1:=⟨N-1,by omega⟩
  have a:i<l.length:=by omega
  have hd:l.drop i=l.getD i (AB).dflt::l.drop (i+1):=by
   rw[List.drop_eq_getElem_cons a,List.getD_eq_getElem?_getD,List.getElem?_eq_getElem a];rfl
  have c:Bh (l.getD i (AB).dflt)=true:=f _ (by
   rw[List.getD_eq_getElem?_getD,List.getElem?_eq_getElem a];exact List.getElem_mem a)
  have k:=Sl c;have this:=j (i+1) N (t++Io (l.getD i (AB).dflt)) (by omega) (by omega) (by rw[List.length_append];omega);simp only[Int.natCast_add,Int.natCast_one] at this;rw[wE];unfold W7;simp only[List.cons_append,List.nil_append];unfold gI;rw[Au (by omega),show(i:Int).toNat=i from rfl,show((l.getD i (AB).dflt).1,(l.getD i (AB).dflt).2.1,())=l.getD i (AB).dflt from rfl,AP (AH.2 ⟨by omega,by omega⟩),AP (by omega),Ag c,AP a,AP (by omega),AP (by omega),xG,this,hd,List.flatMap_cons,List.append_assoc t]
theorem wG (n:List (L8)) (l:List AD) (b:Bool) (x:L8) (c:x.length<=40) (d:l.length<=20) (f:∀e,e∈l->Bh e=true) (q:n.length<=20) (g:∀k,k∈n->isKey k=true):∀(r i N:Nat) (t:L8),n.length=i+r->r+l.length+2<N->t.length+100*r<=274877906944->ao N n l b x t n (n.length:Int) (i:Int)=some (t++(n.drop i).flatMap FW++l.flatMap Io++PZ b x++Q6,()):=by
 intro r
 induction r with
 |zero=>
  intro i N t h hN j;obtain⟨N,rfl⟩:∃m,N=m+1:=⟨N-1,by omega⟩
  have:=wF n l b x c d f l.length 0 N t (by omega) (by omega) (by omega);rw[wD];unfold ABB;rw[Av (by omega),List.drop_eq_nil_of_le (by omega)];refine Eq.trans this ?_;simp
 |succ r o=>
  intro i N t h hN j;obtain⟨N,rfl⟩:∃m,N=m+1:=⟨N-1,by omega⟩
  have a:i<n.length:=by omega
  have hd:n.drop i=n.getD i []::n.drop (i+1):=by
   rw[List.drop_eq_getElem_cons a,List.getD_eq_getElem?_getD,List.getElem?_eq_getElem a];rfl
  have p:=Eb (g (n.getD i []) (by
   rw[List.getD_eq_getElem?_getD,List.getElem?_eq_getElem a];exact List.getElem_mem a))
  have s:(FW (n.getD i [])).length=13+(n.getD i []).length:=by
   unfold FW;rw[List.length_append,List.length_append,show Mj.length=6 from rfl,show Ee.length=7 from rfl];omega
  have this:=o (i+1) N (t++FW (n.getD i [])) (by omega) (by omega) (by rw[List.length_append];omega);simp only[Int.natCast_add,Int.natCast_one] at this;rw[wD];unfold ABB;rw[Au (by omega),show(i:Int).toNat=i from rfl,show n.getD i Ty.str.dflt=n.getD i [] from rfl,me (by omega) (by omega) (by omega) p]
  unfold gI;rw[show(i:Int).toNat=i from rfl,AP a,AP (by omega),AP (by omega),xG];refine Eq.trans this ?_;rw[hd,List.flatMap_cons,List.append_assoc t]
theorem wH {n:List (L8)} {l:List AD} {b:Bool} {x:L8} (h:Eu (n,l,b,x,())=true):Ll (n,l,b,x,()) (λt=>ao AE n l b x t n (n.length:Int) 0)=some (HQ (n,l,b,x,()),()):=by
 unfold Ll HQ;rw[Ag h,Ag h,xG,xG];cases d:Gm (n,l,b,x,())
 ·rfl
 ·obtain⟨e,f,a,c,g⟩:=Qq d;have a:n.length<=20:=a;have c:l.length<=20:=c;have:=wG n l b x g c f a e n.length 0 AE Y5 (by omega) (by unfold AE;omega) (by rw[show Y5.length=6 from rfl];omega);rw[List.drop_zero] at this;exact this
theorem qv:PC 78 Pa:=(AN (sh:=AC W8) (AG (l:=[(119,Hy),(120,LG)]) ⟨p7,yK,trivial⟩) AM func78 (by kernel_rfl) (by decide)).nice λ⟨⟨n,l,b,x,()⟩,()⟩ h=>by
 show osp _=some (HQ (n,l,b,x,()),());rw[wC];cases b
 ·rw[qu];exact wH h
 ·rw[qt];exact wH h
end Go.Proofs.YtkgejlchafionaaGreatDoor
namespace Nice
def SK (l:List AD) (t:L8) (i:Int) (a:L8->L8->List Ae->BS) (b:BS):BS:=
 bif decide (i<(l.length:Int)) then gd ([decide (Ad .i64 (((l.getD i.toNat (AB).dflt).2.1.length:Int)-1)),decide (t.length+(KU++(l.getD i.toNat (AB).dflt).1++Ee).length<=1099511627776),decide ((KU++(l.getD i.toNat (AB).dflt).1).length+7<=1099511627776),decide (11+(l.getD i.toNat (AB).dflt).1.length<=1099511627776)]++gI l i) (a (t++(KU++(l.getD i.toNat (AB).dflt).1++Ee)) (l.getD i.toNat (AB).dflt).1 (l.getD i.toNat (AB).dflt).2.1) else b
def SL (l:List Ae) (t:L8) (i j:Int) (a b:L8->BS):BS:=
 bif decide (j>=0) then gd [AY (l.getD j.toNat (Aa).dflt).2.2.1,decide (j.toNat<l.length),decide (0<=j),decide (j<(l.length:Int))] (bif (l.getD j.toNat (Aa).dflt).2.1 then
     gd (gV t j (Bp (l.getD j.toNat (Aa).dflt).1) PY++(D6.pre ((l.getD j.toNat (Aa).dflt).1,())::(gI l j++gI l j))) (a (t++Sj (Bp (l.getD j.toNat (Aa).dflt).1) PY))
  else gd (gV t j (Bp (l.getD j.toNat (Aa).dflt).1) (Im (l.getD j.toNat (Aa).dflt).2.2.1)++(D6.pre ((l.getD j.toNat (Aa).dflt).1,())::(gI l j++gI l j))) (a (t++Sj (Bp (l.getD j.toNat (Aa).dflt).1) (Im (l.getD j.toNat (Aa).dflt).2.2.1))))
 else gd [decide (Ad .i64 (i+1)),decide (t.length+6<=1099511627776)] (b (t++O3))
theorem gH {α β:Type} {l:List α} {i:Nat} (h:i<l.length) (q:List Bool) (y:Option β):gd (gI l (i:Int)++q) y=gd q y:=by
 unfold gI;simp only[List.cons_append,List.nil_append];rw[show(i:Int).toNat=i from rfl,AP h,AP (by omega),AP (by omega)]
theorem W9 {α β:Type} {l:List α} {i:Nat} (h:i<l.length) (y:Option β):gd (gI l (i:Int)) y=y:=by
 have:=gH h [] y;rw[List.append_nil,xG] at this;exact this
end Nice
namespace Go.Proofs.YtkgejlchafionaaGreatDoor
open Tryz
open Nice Go.RowKit
abbrev Us:List (Nat×List (Nat×Sh)):=[(5,[(1,(.obj [(.dat .str),(.dat AB),.sym,.sym])),(2,(.one .sym)),(3,(.one .sym)),(4,(.one .sym))]),(9,[(1,(.obj [(.dat .str),(.dat AB),.sym,.sym])),(2,(.one .sym)),(3,(.one .sym)),(5,(.one .sym))]),(14,[(1,(.obj [(.dat .str),(.dat AB),.sym,.sym])),(2,(.one .sym)),(3,(.one .sym)),(5,(.one .sym)),(6,(.obj [.sym,(.dat Aa)])),(7,(.one .sym))])]
abbrev XA:Eng.Env:=AL [(58,Hy),(31,D6),(30,Qy)]
def ABM (N:Nat) (n:List (L8)) (l:List AD) (b:Bool) (x t:L8) (i:Int):BS:=rH prog XA (AC Us) f32 [.str] N 0 [(1,.pointer (some ⟨12,0,none⟩)),(2,sy (.string (bs []))),(3,sy (.string (bs t))),(4,sy (.int .i64 i))] [.dat .str n,.dat AB l,.row [dt 10,dt 11,.bool b,sy (.string (bs x))] 94 false]
def XB (N:Nat) (n:List (L8)) (l:List AD) (b:Bool) (x t:L8) (i:Int):BS:=rH prog XA (AC Us) f32 [.str] N 1 [(1,.pointer (some ⟨12,0,none⟩)),(2,sy (.string (bs []))),(3,sy (.string (bs t))),(5,sy (.int .i64 i))] [.dat .str n,.dat AB l,.row [dt 10,dt 11,.bool b,sy (.string (bs x))] 94 false]
def ki (N:Nat) (n:List (L8)) (l:List AD) (b:Bool) (x t:L8) (i:Int) (k:L8) (v:List Ae) (j:Int):BS:=rH prog XA (AC Us) f32 [.str] N 2 [(1,.pointer (some ⟨12,0,none⟩)),(2,sy (.string (bs []))),(3,sy (.string (bs t))),(5,sy (.int .i64 i)),(6,.pointer (some ⟨14,0,none⟩)),(7,sy (.int .i64 j))] [.dat .str n,.dat AB l,.row [dt 10,dt 11,.bool b,sy (.string (bs x))] 94 false,.dat Aa v,.row [sy (.string (bs k)),dt 13] 68 false]
def orp (x:AA [Gz]):BS:=fO prog XA (AC Us) f32 [Gz] [.str] x
theorem wI (x:AA [Gz]):orp x=BV prog XA (AC Us) f32 [Gz] [.str] AE x:=rfl
theorem qw (N:Nat) (n:List (L8)) (l:List AD) (x:L8):BV prog XA (AC Us) f32 [Gz] [.str] N ((n,l,true,x,()),())=Ll (n,l,true,x,()) (λt=>ABM N n l true x t 0):=by kernel_rfl
theorem qx (N:Nat) (n:List (L8)) (l:List AD) (x:L8):BV prog XA (AC Us) f32 [Gz] [.str] N ((n,l,false,x,()),())=Ll (n,l,false,x,()) (λt=>ABM N n l false x t 0):=by kernel_rfl
theorem wJ (N:Nat) (n:List (L8)) (l:List AD) (b:Bool) (x t:L8) (i:Int):ABM (N+1) n l b x t i=ABB n t (n.length:Int) i (λa=>ABM N n l b x a (i+1)) (XB N n l b x t 0):=by kernel_rfl
theorem wK (N:Nat) (n:List (L8)) (l:List AD) (b:Bool) (x t:L8) (i:Int):XB (N+1) n l b x t i=SK l t i (λa k v=>ki N n l b x a i k v ((v.length:Int)-1)) (xr b x t):=by kernel_rfl
theorem wL (N:Nat) (n:List (L8)) (l:List AD) (b:Bool) (x t:L8) (i:Int) (k:L8) (v:List Ae) (j:Int):ki (N+1) n l b x t i k v j=SL v t i j (λa=>ki N n l b x a i k v (j-1)) (λa=>XB N n l b x a (i+1)):=by kernel_rfl
theorem wM (n:List (L8)) (l:List AD) (b:Bool) (x:L8) (i:Nat) (B:i<=20) (k:L8) (v:List Ae) (C:v.length<=12) (r:∀u,u∈v->CS u=true):∀(j N:Nat) (t:L8),j<=v.length->j<N->t.length+100*j<=549755813888->ki N n l b x t (i:Int) k v ((j:Int)-1)=XB (N-j-1) n l b x (t++HO (v.take j)++O3) ((i:Int)+1):=by
 intro j
 induction j with
 |zero=>
  intro N t _ hN s;obtain⟨N,rfl⟩:∃m,N=m+1:=⟨N-1,by omega⟩
  rw[wL];unfold SL;rw[Av (by omega),AP (AH.2 ⟨by omega,by omega⟩),AP (by omega),xG,List.take_zero,show N+1-0-1=N by omega];show XB N n l b x (t++O3) _=XB N n l b x (t++[]++O3) _;rw[List.append_nil]
 |succ j w=>
  intro N t D hN s;obtain⟨N,rfl⟩:∃m,N=m+1:=⟨N-1,by omega⟩
  have a:j<v.length:=by omega
  have y:v.getD j (Aa).dflt∈v:=by
   rw[List.getD_eq_getElem?_getD,List.getElem?_eq_getElem a];exact List.getElem_mem a
  have o:=r _ y;have f:v.take (j+1)=v.take j++[v.getD j (Aa).dflt]:=by
   rw[List.take_succ_eq_append_getElem a,List.getD_eq_getElem?_getD,List.getElem?_eq_getElem a];rfl
  have z:=Ml o;have this:=w N (t++Q7 (v.getD j (Aa).dflt)) (by omega) (by omega) (by rw[List.length_append];omega);have d:=o;unfold CS at d;rw[Bool.and_eq_true,Bool.and_eq_true,Bool.and_eq_true,decide_eq_true_eq,decide_eq_true_eq,decide_eq_true_eq] at d;obtain⟨E,p,F,_⟩:=d;have q:=fmt_len (n:=(v.getD j (Aa).dflt).1) (by omega) p
  have g:=GV (n:=(v.getD j (Aa).dflt).1) (by omega) p;have e:=Q8 (v.getD j (Aa).dflt);have h:AY (v.getD j (Aa).dflt).2.2.1=true:=by unfold AY;exact decide_eq_true (by omega)
  have c:D6.pre ((v.getD j (Aa).dflt).1,())=true:=by
   show(decide (-9223372036854775808<=(v.getD j (Aa).dflt).1)&&decide ((v.getD j (Aa).dflt).1<=9223372036854775807))=true;rw[Bool.and_eq_true,decide_eq_true_eq,decide_eq_true_eq];omega
  rw[wL];unfold SL;rw[Au (by omega),show(((j+1:Nat):Int)-1)=(j:Int) by omega,show(j:Int).toNat=j from rfl,Ag h,AP a,AP (by omega),AP (by omega),xG,f,Mm,<-List.append_assoc t,show N+1-(j+1)-1=N-j-1 by omega,<-this,g];unfold Q7 sq at e⊢;cases A:(v.getD j (Aa).dflt).2.1
  ·rw[A] at e;rw[xF,XY (by omega) (by omega) (by omega) q (by exact e),Ag c,gH a,W9 a];rfl
  ·rw[xT,XY (by omega) (by omega) (by omega) q (by decide),Ag c,gH a,W9 a];rfl
theorem wN (n:List (L8)) (l:List AD) (b:Bool) (x:L8) (h:x.length<=40) (y:l.length<=20) (j:∀e,e∈l->Bh e=true):∀(r i N:Nat) (t:L8),l.length=i+r->15*r<N->t.length+2000*r<=274877906944->XB N n l b x t (i:Int)=some (t++(l.drop i).flatMap Io++PZ b x++Q6,()):=by
 intro r
 induction r with
 |zero=>
  intro i N t k hN o;obtain⟨N,rfl⟩:∃m,N=m+1:=⟨N-1,by omega⟩
  rw[wK];unfold SK;rw[Av (by omega),List.drop_eq_nil_of_le (by omega),mf b h (by omega)];simp
 |succ r p=>
  intro i N t k hN o;obtain⟨N,rfl⟩:∃m,N=m+1:=⟨N-1,by omega⟩
  have a:i<l.length:=by omega
  have hd:l.drop i=l.getD i (AB).dflt::l.drop (i+1):=by
   rw[List.drop_eq_getElem_cons a,List.getD_eq_getElem?_getD,List.getElem?_eq_getElem a];rfl
  have d:Bh (l.getD i (AB).dflt)=true:=j _ (by
   rw[List.getD_eq_getElem?_getD,List.getElem?_eq_getElem a];exact List.getElem_mem a)
  have q:=Sl d;obtain⟨s,f,z,u⟩:=FX.1 d;have f:=Eb f;have c:=EX _ _ s;have v:(KU++(l.getD i (AB).dflt).1).length=11+(l.getD i (AB).dflt).1.length:=by rw[List.length_append];rfl
  have w:(KU++(l.getD i (AB).dflt).1++Ee).length=18+(l.getD i (AB).dflt).1.length:=by rw[List.length_append,v,show Ee.length=7 from rfl];omega
  have g:=wM n l b x i (by omega) (l.getD i (AB).dflt).1 (l.getD i (AB).dflt).2.1 u c (l.getD i (AB).dflt).2.1.length N (t++(KU++(l.getD i (AB).dflt).1++Ee)) (Nat.le_refl _) (by omega) (by rw[List.length_append,w];omega);rw[List.take_length,show t++(KU++(l.getD i (AB).dflt).1++Ee)++HO (l.getD i (AB).dflt).2.1++O3=t++Io (l.getD i (AB).dflt) by unfold Io;simp only[List.append_assoc]] at g
  have this:=p (i+1) (N-(l.getD i (AB).dflt).2.1.length-1) (t++Io (l.getD i (AB).dflt)) (by omega) (by omega) (by rw[List.length_append];omega);simp only[Int.natCast_add,Int.natCast_one] at this;rw[wK];unfold SK;simp only[List.cons_append,List.nil_append];rw[Au (by omega),show(i:Int).toNat=i from rfl,AP (AH.2 ⟨by omega,by omega⟩),AP (by omega),AP (by omega),AP (by omega)]
  unfold gI;rw[show(i:Int).toNat=i from rfl,AP a,AP (by omega),AP (by omega),xG];refine Eq.trans g (Eq.trans this ?_);rw[hd,List.flatMap_cons,List.append_assoc t]
theorem wO (n:List (L8)) (l:List AD) (b:Bool) (x:L8) (c:x.length<=40) (d:l.length<=20) (f:∀e,e∈l->Bh e=true) (q:n.length<=20) (g:∀k,k∈n->isKey k=true):∀(r i N:Nat) (t:L8),n.length=i+r->r+15*l.length+2<N->t.length+100*r<=137438953472->ABM N n l b x t (i:Int)=some (t++(n.drop i).flatMap FW++l.flatMap Io++PZ b x++Q6,()):=by
 intro r
 induction r with
 |zero=>
  intro i N t h hN j;obtain⟨N,rfl⟩:∃m,N=m+1:=⟨N-1,by omega⟩
  have:=wN n l b x c d f l.length 0 N t (by omega) (by omega) (by omega);rw[wJ];unfold ABB;rw[Av (by omega),List.drop_eq_nil_of_le (by omega)];refine Eq.trans this ?_;simp
 |succ r o=>
  intro i N t h hN j;obtain⟨N,rfl⟩:∃m,N=m+1:=⟨N-1,by omega⟩
  have a:i<n.length:=by omega
  have hd:n.drop i=n.getD i []::n.drop (i+1):=by
   rw[List.drop_eq_getElem_cons a,List.getD_eq_getElem?_getD,List.getElem?_eq_getElem a];rfl
  have p:=Eb (g (n.getD i []) (by
   rw[List.getD_eq_getElem?_getD,List.getElem?_eq_getElem a];exact List.getElem_mem a))
  have s:(FW (n.getD i [])).length=13+(n.getD i []).length:=by
   unfold FW;rw[List.length_append,List.length_append,show Mj.length=6 from rfl,show Ee.length=7 from rfl];omega
  have this:=o (i+1) N (t++FW (n.getD i [])) (by omega) (by omega) (by rw[List.length_append];omega);simp only[Int.natCast_add,Int.natCast_one] at this;rw[wJ];unfold ABB;rw[Au (by omega),show(i:Int).toNat=i from rfl,show n.getD i Ty.str.dflt=n.getD i [] from rfl,me (by omega) (by omega) (by omega) p,W9 a]
  refine Eq.trans this ?_;rw[hd,List.flatMap_cons,List.append_assoc t]
theorem wP {n:List (L8)} {l:List AD} {b:Bool} {x:L8} (h:Eu (n,l,b,x,())=true):Ll (n,l,b,x,()) (λt=>ABM AE n l b x t 0)=some (HQ (n,l,b,x,()),()):=by
 unfold Ll HQ;rw[Ag h,Ag h,xG,xG];cases d:Gm (n,l,b,x,())
 ·rfl
 ·obtain⟨e,f,a,c,g⟩:=Qq d;have a:n.length<=20:=a;have c:l.length<=20:=c;have:=wO n l b x g c f a e n.length 0 AE Y5 (by omega) (by unfold AE;omega) (by rw[show Y5.length=6 from rfl];omega);rw[List.drop_zero] at this;exact this
theorem kj:PC 32 Pa:=(AN (sh:=AC Us) (AG (l:=[(58,Hy),(31,D6),(30,Qy)]) ⟨kK,M9,XV,trivial⟩) AM func32 (by kernel_rfl) (by decide)).nice λ⟨⟨n,l,b,x,()⟩,()⟩ h=>by
 show orp _=some (HQ (n,l,b,x,()),());rw[wI];cases b
 ·rw[qx];exact wP h
 ·rw[qw];exact wP h
end Go.Proofs.YtkgejlchafionaaGreatDoor
namespace Nice
def eqV (x y:Ae):Bool:=x.1==y.1&&x.2.1==y.2.1
def VI:List Ae->List Ae->Bool
 |[],[]=>true
 |x::a,y::b=>eqV x y&&VI a b
 |_,_=>false
def Gg (n lo b k:Int) (a:j0):j0:=bif decide (n>lo) then(bif decide (n<b) then some (k,()) else a) else a
def ze (n:Int):j0:=Gg n 4294967296 8589934592 1 (Gg n 8589934592 12884901888 2 (Gg n 12884901888 17179869184 3 (Gg n 17179869184 21474836480 4 (Gg n 21474836480 25769803776 5 (some (0,()))))))
theorem F1 {n lo a k:Int} {b:j0} (d:lo<n) (c:n<a):Gg n lo a k b=some (k,()):=by
 unfold Gg;rw[Au (by omega),Au c]
theorem Ey {n lo a k:Int} {b:j0} (h:n<=lo\/a<=n):Gg n lo a k b=b:=by
 unfold Gg;by_cases c:n>lo
 ·rw[Au c,Av (by omega)]
 ·rw[Av c]
theorem H5 {n k:Int} (c:1<=k) (d:k<=5) (e:k*4294967296<n) (f:n<(k+1)*4294967296):Ai n=k:=by
 unfold Ai;have a:n.tmod 4294967296=n%4294967296:=Int.tmod_eq_emod_of_nonneg (by omega);have b:n.tdiv 4294967296=n/4294967296:=Int.tdiv_eq_ediv_of_nonneg (by omega);rw[decide_eq_false (show ¬n<4294967296 by omega),decide_eq_false (show ¬n>=25769803776 by omega),a,b,show(n%4294967296==0)=false from by rw[beq_eq_false_iff_ne];omega]
 show n/4294967296=k;omega
theorem XC {n:Int} (h:n<=4294967296\/25769803776<=n\/n%4294967296=0):Ai n=0:=by
 unfold Ai;by_cases a:n<4294967296
 ·rw[decide_eq_true a];rfl
 rw[decide_eq_false a];by_cases b:n>=25769803776
 ·rw[decide_eq_true b];rfl
 rw[decide_eq_false b];have c:n.tmod 4294967296=n%4294967296:=Int.tmod_eq_emod_of_nonneg (by omega);rw[c,show(n%4294967296==0)=true from beq_iff_eq.2 (by omega)];rfl
theorem wQ (n:Int):ze n=some (Ai n,()):=by
 unfold ze;by_cases a:4294967296<n/\n<8589934592
 ·rw[F1 a.1 a.2,H5 (k:=1) (by omega) (by omega) (by omega) (by omega)]
 rw[Ey (by omega)];by_cases b:8589934592<n/\n<12884901888
 ·rw[F1 b.1 b.2,H5 (k:=2) (by omega) (by omega) (by omega) (by omega)]
 rw[Ey (by omega)];by_cases c:12884901888<n/\n<17179869184
 ·rw[F1 c.1 c.2,H5 (k:=3) (by omega) (by omega) (by omega) (by omega)]
 rw[Ey (by omega)];by_cases d:17179869184<n/\n<21474836480
 ·rw[F1 d.1 d.2,H5 (k:=4) (by omega) (by omega) (by omega) (by omega)]
 rw[Ey (by omega)];by_cases e:21474836480<n/\n<25769803776
 ·rw[F1 e.1 e.2,H5 (k:=5) (by omega) (by omega) (by omega) (by omega)]
 rw[Ey (by omega),XC (by omega)]
abbrev rl (e:AD):List Bool:=[decide (((e.2.1.length:Int)-1).toNat<e.2.1.length),decide (0<=(e.2.1.length:Int)-1),decide ((e.2.1.length:Int)-1<(e.2.1.length:Int)),decide (Ad .i64 ((e.2.1.length:Int)-1))]
def zf (q:Int) (l:List AD) (i:Int) (e:AD) (a:BO):BO:=
 bif Bh (e.1,e.2.1,()) then(bif decide (i>0) then(bif Op.bytesLess e.1 (l.getD (i-1).toNat (AB).dflt).1||e.1==(l.getD (i-1).toNat (AB).dflt).1 then gd (bA l i++(gI l i++(CN (e.1,e.2.1,())::gI l i))) (bO false)
     else bif decide ((e.2.1.getD ((e.2.1.length:Int)-1).toNat (Aa).dflt).1>q) then gd (rl e++(gI l i++(gI l i++(bA l i++(gI l i++(CN (e.1,e.2.1,())::gI l i)))))) (bO false) else gd (decide (Ad .i64 (i+1))::(rl e++(gI l i++(gI l i++(bA l i++(gI l i++(CN (e.1,e.2.1,())::gI l i))))))) a)
  else bif decide ((e.2.1.getD ((e.2.1.length:Int)-1).toNat (Aa).dflt).1>q) then gd (rl e++(gI l i++(gI l i++(CN (e.1,e.2.1,())::gI l i)))) (bO false) else gd (decide (Ad .i64 (i+1))::(rl e++(gI l i++(gI l i++(CN (e.1,e.2.1,())::gI l i))))) a)
 else gd (CN (e.1,e.2.1,())::gI l i) (bO false)
def XD (q:Int) (l:List AD) (i:Int) (a b:BO):BO:=bif decide (i<(l.length:Int)) then zf q l i (l.getD i.toNat (AB).dflt) a else b
theorem Gp {α β:Type} {l:List α} {i:Nat} (b:i<l.length) (y:Option β) (a:List Bool):gd (gI l (i:Int)++a) y=gd a y:=by
 unfold gI;simp only[List.cons_append,List.nil_append];rw[AP (by omega),AP (by omega),AP (by omega)]
theorem Gh {α β:Type} {l:List α} {i:Nat} (a:i<l.length) (y:Option β):gd (gI l (i:Int)) y=y:=by
 have:=Gp a y [];rw[List.append_nil] at this;rw[this,xG]
theorem wR {q:Int} {l:List AD} {i:Nat} {b:Bool} {k:BO} (x:l.length<=40) (a:i<l.length) (p:CN (AQ l i)=true) (h:k=bO b):zf q l (i:Int) (AQ l i) k=bO (JB q l i&&b):=by
 have m:Ad .i64 ((i:Int)+1):=AH.2 ⟨by omega,by omega⟩;have c:CN ((AQ l i).1,(AQ l i).2.1,())=true:=p;have r:Bh ((AQ l i).1,(AQ l i).2.1,())=Bh (AQ l i):=rfl;unfold zf JB;rw[r];cases s:Bh (AQ l i)
 ·rw[xF,Ag c,Gh a];rfl
 ·obtain⟨z,A⟩:=J9 s;have t:(((AQ l i).2.1.length:Int)-1).toNat=(AQ l i).2.1.length-1:=by omega
  have f:∀(y:BO) j,gd (rl (AQ l i)++j) y=gd j y:=λy j=>by
   unfold rl;simp only[List.cons_append,List.nil_append];rw[AP (by omega),AP (by omega),AP (by omega),AP (AH.2 ⟨by omega,by omega⟩)]
  have u:(AQ l i).2.1.getD (((AQ l i).2.1.length:Int)-1).toNat (Aa).dflt=Bi (AQ l i):=by rw[t];rfl
  rw[xT,u,Bool.true_and];by_cases o:i=0
  ·subst o;rw[Av (by omega)];by_cases d:(Bi (AQ l 0)).1>q
   ·rw[Au d,f,Gp a,Gp a,Ag c,Gh a,decide_eq_false (show ¬(Bi (AQ l 0)).1<=q by omega)];rfl
   ·rw[Av d,AP m,f,Gp a,Gp a,Ag c,Gh a,decide_eq_true (show(Bi (AQ l 0)).1<=q by omega),h];rfl
  ·have v:((i:Int)-1).toNat=i-1:=by omega
   have w:Nat.beq i 0=false:=by cases i with
    |zero=>exact absurd rfl o
    |succ n=>rfl
   rw[Au (by omega),v,w,Bool.false_or];show(bif Op.bytesLess (AQ l i).1 (AQ l (i-1)).1||(AQ l i).1==(AQ l (i-1)).1 then _ else _)=_;have g:=OJ (AQ l (i-1)).1 (AQ l i).1;cases e:Op.bytesLess (AQ l i).1 (AQ l (i-1)).1||(AQ l i).1==(AQ l (i-1)).1
   ·rw[e] at g;rw[xF,g];by_cases d:(Bi (AQ l i)).1>q
    ·rw[Au d,f,Gp a,Gp a,HH (by omega) a (by omega),Gp a,Ag c,Gh a,decide_eq_false (show ¬(Bi (AQ l i)).1<=q by omega)];rfl
    ·rw[Av d,AP m,f,Gp a,Gp a,HH (by omega) a (by omega),Gp a,Ag c,Gh a,decide_eq_true (show(Bi (AQ l i)).1<=q by omega),h];rfl
   ·rw[e] at g;rw[xT,HH (by omega) a (by omega),Gp a,Ag c,Gh a,g];cases decide ((Bi (AQ l i)).1<=q)<;>rfl
def SM (q:Int) (x:AU) (i:Int) (G:List Bool) (a:BO) (lo:Int):BO:=
 bif decide (x.1<lo) then gd (decide (Ad .i64 (Ai x.1-1))::G) (bO false) else bif decide (x.2.1.1<0) then gd (decide (Ad .i64 (Ai x.1-1))::G) (bO false) else bif decide (x.2.1.1>13) then gd (decide (Ad .i64 (Ai x.1-1))::G) (bO false)
  else bif decide (x.2.1.2.1<0) then gd (decide (Ad .i64 (Ai x.1-1))::G) (bO false) else bif decide (x.2.1.2.1>q) then gd (decide (Ad .i64 (Ai x.1-1))::G) (bO false) else gd (decide (Ad .i64 (i+1))::decide (Ad .i64 (Ai x.1-1))::G) a
theorem Ut {q:Int} {x:AU} {i lo:Int} {G:List Bool} {b:Bool} {d:BO} (l:Ad .i64 (i+1)) (a:Ad .i64 (Ai x.1-1)) (c:∀y:BO,gd G y=y) (h:d=bO b):SM q x i G d lo=bO (decide (lo<=x.1)&&(aS q x&&b)):=by
 unfold SM aS;by_cases e:x.1<lo
 ·rw[Au e,AP a,c,decide_eq_false (show ¬lo<=x.1 by omega)];rfl
 rw[Av e,decide_eq_true (show lo<=x.1 by omega)];by_cases f:x.2.1.1<0
 ·rw[Au f,AP a,c,decide_eq_false (show ¬0<=x.2.1.1 by omega)];rfl
 rw[Av f,decide_eq_true (show 0<=x.2.1.1 by omega)];by_cases g:x.2.1.1>13
 ·rw[Au g,AP a,c,decide_eq_false (show ¬x.2.1.1<=13 by omega)];rfl
 rw[Av g,decide_eq_true (show x.2.1.1<=13 by omega)];by_cases j:x.2.1.2.1<0
 ·rw[Au j,AP a,c,decide_eq_false (show ¬0<=x.2.1.2.1 by omega)];rfl
 rw[Av j,decide_eq_true (show 0<=x.2.1.2.1 by omega)];by_cases k:x.2.1.2.1>q
 ·rw[Au k,AP a,c,decide_eq_false (show ¬x.2.1.2.1<=q by omega)];rfl
 rw[Av k,decide_eq_true (show x.2.1.2.1<=q by omega),AP l,AP a,c,h];rfl
def zg (q:Int) (L:Dd) (m:List AU) (i:Int) (x:AU) (a:BO):BO:=
 bif Ai x.1==0 then bO false else bif decide (i>0) then(bif decide (x.1<=(m.getD (i-1).toNat (Ab).dflt).1) then gd (bA m i) (bO false) else hF L (Ai x.1-1) (SM q x i (bA m i) a)) else hF L (Ai x.1-1) (SM q x i [] a)
def XE (q:Int) (L:Dd) (m:List AU) (i:Int) (a:BO):BO:=bif decide (i<(m.length:Int)) then gd (gI m i) (zg q L m i (m.getD i.toNat (Ab).dflt) a) else bO true
theorem wS {q:Int} {L:Dd} {m:List AU} {i:Nat} {b:Bool} {c:BO} (r:m.length<=100) (j:i<m.length) (h:c=bO b):zg q L m (i:Int) (Ay m i) c=bO (J8 q L m i&&b):=by
 have d:Ad .i64 ((i:Int)+1):=AH.2 ⟨by omega,by omega⟩;unfold zg J8;have s:=Hv (Ay m i).1;cases k:Ai (Ay m i).1==0
 ·have l:Ai (Ay m i).1≠0:=by simpa using k
  have e:Ad .i64 (Ai (Ay m i).1-1):=AH.2 ⟨by omega,by omega⟩;rw[xF,U8 (by omega),U8 (by omega),show(!false)=true from rfl,Bool.true_and];by_cases a:i=0
  ·subst a;rw[Av (by omega),Ut d e (λy=>xG _) h];show bO _=bO _;rw[Bool.and_assoc,show Nat.beq 0 0=true from rfl,Bool.true_or,Bool.true_and]
  ·have o:((i:Int)-1).toNat=i-1:=by omega
   have p:Nat.beq i 0=false:=by cases i with
    |zero=>exact absurd rfl a
    |succ n=>rfl
   have f:∀y:BO,gd (bA m (i:Int)) y=y:=λy=>by
    have:=HH (show 0<i by omega) j (by omega) y [];rw[List.append_nil] at this;rw[this,xG]
   rw[Au (by omega),o,p,Bool.false_or];show(bif decide ((Ay m i).1<=(Ay m (i-1)).1) then _ else _)=_;by_cases g:(Ay m i).1<=(Ay m (i-1)).1
   ·rw[Au g,f,decide_eq_false (show ¬(Ay m (i-1)).1<(Ay m i).1 by omega),Bool.false_and,Bool.and_false];rfl
   ·rw[Av g,Ut d e f h,decide_eq_true (show(Ay m (i-1)).1<(Ay m i).1 by omega),Bool.true_and,Bool.and_assoc]
 ·rw[xT];rfl
def rm (b is:Bool) (p f:L8) (k:Int) (o:List AD) (i:Int) (e:AD) (a:List AD->PO):PO:=
 bif decide ((e.1.length:Int)<(p.length:Int)) then gd [decide (Ad .i64 (i+1))] (a o) else bif !List.take (p.length:Int).toNat e.1==p then gd [decide (Ad .i64 (i+1)),decide ((p.length:Int)<=(e.1.length:Int))] (a o)
  else bif Op.bytesLess e.1 f||e.1==f then gd [decide (Ad .i64 (i+1)),decide ((p.length:Int)<=(e.1.length:Int))] (a o)
  else bif b&& !is then gd [decide (Ad .i64 (i+1)),decide ((p.length:Int)<=(e.1.length:Int))] (a o)
  else gd [decide ((p.length:Int)<=(e.1.length:Int))] (bif (o.length:Int)==k then some (o,true,()) else gd [decide (Ad .i64 (i+1)),decide ((2*(o.length+[(e.1,e.2.1,())].length)+400)*40<=281474976710656)] (a (o++[(e.1,e.2.1,())])))
def Oq (b:Bool) (p f:L8) (k:Int) (l o:List AD) (i:Int) (a:List AD->PO):PO:=
 bif decide (i<(l.length:Int)) then gd (gI l i) (bif (CI ((l.getD i.toNat (AB).dflt).1,(l.getD i.toNat (AB).dflt).2.1,())).2 then gd [decide ((l.getD i.toNat (AB).dflt).2.1.length<=140737488355328)] (rm b true p f k o i (l.getD i.toNat (AB).dflt) a) else gd [decide ((l.getD i.toNat (AB).dflt).2.1.length<=140737488355328)] (rm b false p f k o i (l.getD i.toNat (AB).dflt) a)) else some (o,false,())
theorem wT {b:Bool} {p f:L8} {k:Int} {l:List AD} {h:Nat->List AD->Int->PO} (x:∀N o i,h (N+1) o i=Oq b p f k l o i (λa=>h N a (i+1))) (D:0<=k) (E:l.length<=40) (y:∀e,e∈l->1<=e.2.1.length/\e.2.1.length<=12):
  ∀(r i N:Nat) (o:List AD),l.length=i+r->r<N->o.length<=i->(o.length:Int)<=k->h N o (i:Int)=some ((o++(l.drop i).filter (Ch p f b)).take k.toNat,decide (k<((o++(l.drop i).filter (Ch p f b)).length:Int)),()):=by
 intro r
 induction r with
 |zero=>
  intro i N o z hN A m;obtain⟨N,rfl⟩:∃k,N=k+1:=⟨N-1,by omega⟩
  rw[x];unfold Oq;rw[Av (by omega),List.drop_eq_nil_of_le (by omega),List.filter_nil,List.append_nil,List.take_of_length_le (by omega),decide_eq_false (show ¬k<(o.length:Int) by omega)]
 |succ r B=>
  intro i N o z hN A m;obtain⟨N,rfl⟩:∃k,N=k+1:=⟨N-1,by omega⟩
  have c:i<l.length:=by omega
  have d:Ad .i64 ((i:Int)+1):=AH.2 ⟨by omega,by omega⟩;have hd:l.drop i=AQ l i::l.drop (i+1):=by
   rw[List.drop_eq_getElem_cons c];congr 1;unfold AQ;rw[List.getD_eq_getElem?_getD,List.getElem?_eq_getElem c];rfl
  obtain⟨F,v2⟩:=y (AQ l i) (by
   show l.getD i _∈l;rw[List.getD_eq_getElem?_getD,List.getElem?_eq_getElem c];exact List.getElem_mem c)
  have n:∀a:List AD,a.length<=i+1->(a.length:Int)<=k->h N a ((i:Int)+1)=some ((a++(l.drop (i+1)).filter (Ch p f b)).take k.toNat,decide (k<((a++(l.drop (i+1)).filter (Ch p f b)).length:Int)),()):=λa C v=>by
   have:=B (i+1) N a (by omega) (by omega) C v;simpa only[Int.natCast_add,Int.natCast_one] using this
  have skip:Ch p f b (AQ l i)=false->h N o ((i:Int)+1)=some ((o++(l.drop i).filter (Ch p f b)).take k.toNat,decide (k<((o++(l.drop i).filter (Ch p f b)).length:Int)),()):=λg=>by
   rw[hd,List.filter_cons_of_neg (by rw[g];exact Bool.false_ne_true)];exact n o (by omega) m
  have take:Ch p f b (AQ l i)=true->(o.length:Int)<k->h N (o++[AQ l i]) ((i:Int)+1)=some ((o++(l.drop i).filter (Ch p f b)).take k.toNat,decide (k<((o++(l.drop i).filter (Ch p f b)).length:Int)),()):=λg w=>by
   have:=n (o++[AQ l i]) (by rw[List.length_append,List.length_singleton];omega) (by rw[List.length_append,List.length_singleton];omega);rw[hd,List.filter_cons_of_pos g];simpa only[List.append_assoc,List.singleton_append] using this
  have q:Ch p f b (AQ l i)=true->(o.length:Int)=k->some (o,true,())=(some ((o++(l.drop i).filter (Ch p f b)).take k.toNat,decide (k<((o++(l.drop i).filter (Ch p f b)).length:Int)),()):PO):=λg w=>by
   rw[hd,List.filter_cons_of_pos g,show k.toNat=o.length by omega,List.take_left,decide_eq_true (by rw[List.length_append,List.length_cons];omega)]
  have j:∀is:Bool,(CI (AQ l i)).2=is->rm b is p f k o (i:Int) (AQ l i) (λa=>h N a ((i:Int)+1))=some ((o++(l.drop i).filter (Ch p f b)).take k.toNat,decide (k<((o++(l.drop i).filter (Ch p f b)).length:Int)),()):=λis s=>by
   unfold rm;by_cases c1:((AQ l i).1.length:Int)<(p.length:Int)
   ·rw[Au c1,AP d,xG];exact skip (by unfold Ch Ax;rw[decide_eq_false (show ¬p.length<=(AQ l i).1.length by omega)];rfl)
   rw[Av c1,show(p.length:Int).toNat=p.length from rfl];have u:Ax (AQ l i).1 p=(List.take p.length (AQ l i).1==p):=by
    unfold Ax;rw[decide_eq_true (show p.length<=(AQ l i).1.length by omega),Bool.true_and]
   cases c2:List.take p.length (AQ l i).1==p
   ·rw[show(!false)=true from rfl,xT,AP d,AP (by omega),xG];exact skip (by unfold Ch;rw[u,c2];rfl)
   rw[show(!true)=false from rfl,xF];cases c3:Op.bytesLess (AQ l i).1 f||(AQ l i).1==f
   ·rw[xF];cases c4:b&& !is
    ·have g:Ch p f b (AQ l i)=true:=by
      unfold Ch VA;rw[u,c2,c3,s];cases b
      ·rfl
      ·cases is
       ·cases c4
       ·rfl
     rw[xF,AP (by omega),xG];by_cases c5:(o.length:Int)=k
     ·rw[show((o.length:Int)==k)=true from beq_iff_eq.2 c5,xT];exact q g c5
     ·rw[show((o.length:Int)==k)=false from beq_eq_false_iff_ne.2 c5,xF,AP d,AP (by simp only[List.length_singleton];omega),xG];exact take g (by omega)
    ·rw[xT,AP d,AP (by omega),xG];exact skip (by
      unfold Ch VA;rw[u,c2,c3,s];cases b
      ·cases c4
      ·cases is
       ·rfl
       ·cases c4)
   ·rw[xT,AP d,AP (by omega),xG];exact skip (by unfold Ch;rw[u,c2,c3];rfl)
  rw[x];unfold Oq;rw[Au (by omega),Gh c];show(bif (CI (AQ l i)).2 then gd [decide ((AQ l i).2.1.length<=140737488355328)] (rm b true p f k o (i:Int) (AQ l i) (λa=>h N a ((i:Int)+1))) else gd [decide ((AQ l i).2.1.length<=140737488355328)] (rm b false p f k o (i:Int) (AQ l i) (λa=>h N a ((i:Int)+1))))=_
  cases t:(CI (AQ l i)).2
  ·rw[xF,AP (by omega),xG];exact j false t
  ·rw[xT,AP (by omega),xG];exact j true t
def Uu (b:Bool):PSpec:=⟨[A9,.str,.str,IT,.bool],[.slice AB,.bool],λx=>BZ x.1&&x.2.2.2.2.1==b,λx=>(BX x.1 x.2.1 x.2.2.1 x.2.2.2.1 x.2.2.2.2.1,CP x.1 x.2.1 x.2.2.1 x.2.2.2.1 x.2.2.2.2.1,())⟩
theorem Ys (k:Int):max 1 (min k 20)=CT k:=by unfold CT;omega
def XF:PSpec:=⟨[A9,Ah],[Gz],λx=>BZ x.1,λx=>(DJ x.1 x.2.1,())⟩
def XG (s:BB) (a:Ak):rT:=bif a.1==4 then xD s (FH s a.2.2.2.2.2.2.1 a.2.2.2.2.2.2.2.1 a.2.2.2.2.2.2.2.2.1 true) (CP s a.2.2.2.2.2.2.1 a.2.2.2.2.2.2.2.1 a.2.2.2.2.2.2.2.2.1 true)
    else bif a.1==5 then xE s (BX s a.2.2.2.2.2.2.1 a.2.2.2.2.2.2.2.1 a.2.2.2.2.2.2.2.2.1 false) (CP s a.2.2.2.2.2.2.1 a.2.2.2.2.2.2.2.1 a.2.2.2.2.2.2.2.2.1 false) else some (zSh,())
theorem gJ {s:BB} {a:Ak} (c:BZ s=true):XG s a=some (DJ s a,()):=by
 unfold XG DJ;cases a.1==4
 ·rw[xF,xF];cases a.1==5
  ·rw[xF,xF]
  ·rw[xT,xT];refine lC c (Nat.le_trans D7 (by omega)) λb=> ?_
   have:=IB b;have:=JP a.2.2.2.2.2.2.2.2.1;omega
 ·rw[xT,xT];refine lB c ?_ λb=> ?_
  ·unfold FH;rw[List.length_map];exact Nat.le_trans D7 (by omega)
  ·have:=IB b;have:=JP a.2.2.2.2.2.2.2.2.1;unfold FH;rw[List.length_map];omega
def E0 (s:BB):BB:=(s.1,(s.2.1.take 42).map Gl,s.2.2.1.take 103,s.2.2.2.1,())
def xt (s:BB):Bool:=s.2.1.all λe=>decide (e.2.1.length<=140737488355328)
def zh:PSpec:=⟨[A9],[A9],λx=>xt x.1,λx=>(E0 x.1,())⟩
abbrev rn:=Option (AA [A9])
def Yt (q:Int) (m:List AU) (L:Dd) (o:List AD):rn:=gd [decide ((2*(0+(Bw m none (some (min (m.length:Int) 103))).length)+400)*24<=281474976710656),decide (0<=min (m.length:Int) 103),decide (min (m.length:Int) 103<=(m.length:Int))] (some ((q,o,[]++Bw m none (some (min (m.length:Int) 103)),L,()),()))
def SN (q:Int) (l:List AD) (m:List AU) (L:Dd) (o:List AD) (i:Int) (a:List AD->rn):rn:=
 bif decide (i<(l.length:Int)) then(bif decide (i<42) then gd (decide (Ad .i64 (i+1))::decide ((2*(o.length+[Gl ((l.getD i.toNat (AB).dflt).1,(l.getD i.toNat (AB).dflt).2.1,())].length)+400)*40<=281474976710656)::decide ((l.getD i.toNat (AB).dflt).2.1.length<=140737488355328)::gI l i) (a (o++[Gl ((l.getD i.toNat (AB).dflt).1,(l.getD i.toNat (AB).dflt).2.1,())])) else Yt q m L o) else Yt q m L o
theorem Yu {q:Int} {m:List AU} {L:Dd} {o:List AD}:Yt q m L o=some ((q,o,m.take 103,L,()),()):=by
 unfold Yt;have b:Bw m none (some (min (m.length:Int) 103))=m.take 103:=by
  show m.take (min (m.length:Int) 103).toNat=m.take 103;by_cases a:m.length<=103
  ·rw[Int.min_eq_left (by omega),List.take_of_length_le (by omega),List.take_of_length_le a]
  ·rw[Int.min_eq_right (by omega)];rfl
 have a:(m.take 103).length<=103:=by rw[List.length_take];omega
 rw[b,AP (by omega),AP (by omega),AP (by omega),xG,List.nil_append]
theorem zi {q:Int} {l:List AD} {m:List AU} {L:Dd} {h:Nat->List AD->Int->rn} (c:∀N o i,h (N+1) o i=SN q l m L o i (λf=>h N f (i+1))) (g:∀e,e∈l->e.2.1.length<=140737488355328):
  ∀(r i N:Nat) (o:List AD),min l.length 42=i+r->r<N->o.length<=i->h N o (i:Int)=some ((q,o++((l.take 42).drop i).map Gl,m.take 103,L,()),()):=by
 intro r
 induction r with
 |zero=>
  intro i N o j hN n;obtain⟨N,rfl⟩:∃k,N=k+1:=⟨N-1,by omega⟩
  rw[c];unfold SN;rw[List.drop_eq_nil_of_le (by rw[List.length_take];omega),List.map_nil,List.append_nil];by_cases d:(i:Int)<(l.length:Int)
  ·rw[Au d,Av (by omega),Yu]
  ·rw[Av d,Yu]
 |succ r p=>
  intro i N o j hN n;obtain⟨N,rfl⟩:∃k,N=k+1:=⟨N-1,by omega⟩
  have a:i<l.length:=by omega
  have b:i<(l.take 42).length:=by rw[List.length_take];omega
  have hd:(l.take 42).drop i=AQ l i::(l.take 42).drop (i+1):=by
   rw[List.drop_eq_getElem_cons b];congr 1;unfold AQ;rw[List.getElem_take,List.getD_eq_getElem?_getD,List.getElem?_eq_getElem a];rfl
  have s:AQ l i∈l:=by
   show l.getD i _∈l;rw[List.getD_eq_getElem?_getD,List.getElem?_eq_getElem a];exact List.getElem_mem a
  have:=p (i+1) N (o++[Gl (AQ l i)]) (by omega) (by omega) (by rw[List.length_append,List.length_singleton];omega);simp only[Int.natCast_add,Int.natCast_one] at this;rw[c];unfold SN;rw[Au (by omega),Au (by omega),AP (AH.2 ⟨by omega,by omega⟩),AP (by simp only[List.length_singleton];omega),AP (show(l.getD (i:Int).toNat (AB).dflt).2.1.length<=140737488355328 from g _ s),Gh a,hd,List.map_cons]
  refine this.trans ?_;rw[List.append_assoc,List.singleton_append]
end Nice
namespace Go.Proofs.YtkgejlchafionaaGreatDoor
open Tryz
open Nice
def qy (x:AA [IT]):j0:=fO prog (AL []) (AC []) f25 [IT] [IT] x
theorem qz (n:Int):qy (n,())=ze n:=by kernel_rfl
theorem ABG:PC 25 FD:=(AN (AG (l:=[]) trivial) AM func25 (by kernel_rfl) (by decide)).nice λ⟨n,()⟩ _=>(qz n).trans (wQ n)
abbrev aq:List (Nat×List (Nat×Sh)):=[(4,[(1,(.obj [.sym,(.dat AB),(.dat Ab),.sym,.sym,.sym,.sym,.sym])),(2,(.one .sym)),(3,(.one .sym))]),(14,[(1,(.obj [.sym,(.dat AB),(.dat Ab),.sym,.sym,.sym,.sym,.sym])),(2,(.one .sym)),(5,(.one .sym))])]
abbrev gK:Eng.Env:=AL [(24,GU),(25,FD)]
def kk (N:Nat) (q:Int) (l:List AD) (m:List AU) (a b c d e i:Int):BO:=rH prog gK (AC aq) f10 [.bool] N 0 [(1,.pointer (some ⟨12,0,none⟩)),(2,.bool false),(3,sy (.int .i64 i))] [.dat AB l,.dat Ab m,PM q (a,b,c,d,e,())]
def kl (N:Nat) (q:Int) (l:List AD) (m:List AU) (a b c d e i:Int):BO:=rH prog gK (AC aq) f10 [.bool] N 2 [(1,.pointer (some ⟨12,0,none⟩)),(2,.bool false),(5,sy (.int .i64 i))] [.dat AB l,.dat Ab m,PM q (a,b,c,d,e,())]
def zj (x:AA [A9]):BO:=fO prog gK (AC aq) f10 [A9] [.bool] x
theorem wU (x:AA [A9]):zj x=BV prog gK (AC aq) f10 [A9] [.bool] AE x:=rfl
theorem wV (N:Nat) (q:Int) (l:List AD) (m:List AU) (a b c d e:Int):BV prog gK (AC aq) f10 [A9] [.bool] N ((q,l,m,(a,b,c,d,e,()),()),())=
 (bif decide (q<0) then bO false else bif decide (q>1099511627776) then bO false else bif decide ((l.length:Int)>40) then bO false else bif decide ((m.length:Int)>100) then bO false else kk N q l m a b c d e 0):=by kernel_rfl
theorem mg (N:Nat) (q:Int) (l:List AD) (m:List AU) (a b c d e i:Int):kk (N+1) q l m a b c d e i=XD q l i (kk N q l m a b c d e (i+1)) (XN (a,b,c,d,e,()) (kl N q l m a b c d e 0)):=by kernel_rfl
theorem mh (N:Nat) (q:Int) (l:List AD) (m:List AU) (a b c d e i:Int):kl (N+1) q l m a b c d e i=XE q (a,b,c,d,e,()) m i (kl N q l m a b c d e (i+1)):=by kernel_rfl
theorem wX (q:Int) (l:List AD) (m:List AU) (a b c d e:Int) (f:m.length<=100):∀(r i N:Nat),m.length=i+r->r<N->kl N q l m a b c d e (i:Int)=bO (Es (J8 q (a,b,c,d,e,()) m) r i):=by
 intro r
 induction r with
 |zero=>
  intro i N g hN;obtain⟨N,rfl⟩:∃k,N=k+1:=⟨N-1,by omega⟩
  rw[mh];unfold XE;rw[Av (by omega)];rfl
 |succ r h=>
  intro i N g hN;obtain⟨N,rfl⟩:∃k,N=k+1:=⟨N-1,by omega⟩
  have this:=h (i+1) N (by omega) (by omega);simp only[Int.natCast_add,Int.natCast_one] at this;rw[mh];unfold XE;rw[Au (by omega),Gh (by omega)];exact wS f (by omega) this
theorem wY (q:Int) (l:List AD) (m:List AU) (a b c d e:Int) (h:l.length<=40) (j:m.length<=100) (n:∀x,x∈l->CN x=true):∀(r i N:Nat),l.length=i+r->r+101<N->kk N q l m a b c d e (i:Int)=bO (Es (JB q l) r i&&(OB (a,b,c,d,e,())&&Es (J8 q (a,b,c,d,e,()) m) m.length 0)):=by
 intro r
 induction r with
 |zero=>
  intro i N o hN;obtain⟨N,rfl⟩:∃k,N=k+1:=⟨N-1,by omega⟩
  have this:=wX q l m a b c d e j m.length 0 N (by omega) (by omega);rw[mg];unfold XD;rw[Av (by omega)];exact XO this
 |succ r p=>
  intro i N o hN;obtain⟨N,rfl⟩:∃k,N=k+1:=⟨N-1,by omega⟩
  have f:i<l.length:=by omega
  have this:=p (i+1) N (by omega) (by omega);simp only[Int.natCast_add,Int.natCast_one] at this;have g:CN (AQ l i)=true:=n _ (by
   show l.getD i _∈l;rw[List.getD_eq_getElem?_getD,List.getElem?_eq_getElem f];exact List.getElem_mem f)
  rw[mg];unfold XD;rw[Au (by omega)];refine(wR h f g this).trans ?_;show bO (_&&(_&&_))=bO ((_&&_)&&_);rw[Bool.and_assoc]
theorem zk (q:Int) (l:List AD) (m:List AU) (a b c d e:Int) (h:l.all CN=true):zj ((q,l,m,(a,b,c,d,e,()),()),())=bO (Bb (q,l,m,(a,b,c,d,e,()),())):=by
 have k:=List.all_eq_true.1 h;show zj _=bO (decide (0<=q)&&(decide (q<=1099511627776)&&(decide (l.length<=40)&&(decide (m.length<=100)&&(Es (JB q l) l.length 0&&(OB (a,b,c,d,e,())&&Es (J8 q (a,b,c,d,e,()) m) m.length 0))))));rw[wU,wV];by_cases f:q<0
 ·rw[Au f,decide_eq_false (show ¬0<=q by omega)];rfl
 rw[Av f,decide_eq_true (show 0<=q by omega)];by_cases g:q>1099511627776
 ·rw[Au g,decide_eq_false (show ¬q<=1099511627776 by omega)];rfl
 rw[Av g,decide_eq_true (show q<=1099511627776 by omega)];by_cases i:(l.length:Int)>40
 ·rw[Au i,decide_eq_false (show ¬l.length<=40 by omega)];rfl
 rw[Av i,decide_eq_true (show l.length<=40 by omega)];by_cases j:(m.length:Int)>100
 ·rw[Au j,decide_eq_false (show ¬m.length<=100 by omega)];rfl
 rw[Av j,decide_eq_true (show m.length<=100 by omega)];exact wY q l m a b c d e (by omega) (by omega) k l.length 0 AE (by omega) (by unfold AE;omega)
theorem Yv:PC 10 Ie:=(AN (sh:=AC aq) (AG (l:=[(24,GU),(25,FD)]) ⟨mM,ABG,trivial⟩) AM func10 (by kernel_rfl) (by decide)).nice λ⟨⟨q,l,m,⟨a,b,c,d,e,()⟩,()⟩,()⟩ h=>zk q l m a b c d e h
def mi (x:AA [AB]):Option (AA [Aa,.bool]):=fO prog (AL []) (AC []) f53 [AB] [Aa,.bool] x
theorem wZ (k:L8) (l:List Ae):mi ((k,l,()),())=hO k l:=by kernel_rfl
theorem SP:PC 53 Gr:=(AN (AG (l:=[]) trivial) AM func53 (by kernel_rfl) (by decide)).nice λ⟨⟨k,l,()⟩,()⟩ h=>by
 show mi _=_;rw[wZ];exact bN (of_decide_eq_true h)
abbrev ar:List (Nat×List (Nat×Sh)):=[(4,[(1,(.one .sym)),(2,(.one .sym)),(3,(.one .sym)),(4,(.one .sym)),(5,(.obj [.sym,(.dat AB),(.dat Ab),.sym,.sym,.sym,.sym,.sym])),(10,(.one .any)),(11,(.one .sym)),(12,(.one (.vec AB 68))),(13,(.one .sym))])]
abbrev gM:Eng.Env:=AL [(53,Gr)]
def au (g:Bool) (N:Nat) (p f:L8) (k q:Int) (l:List AD) (m:List AU) (a b c d e:Int) (o:List AD) (i:Int):PO:=rH prog gM (AC ar) f98 [.slice AB,.bool] N 0 [(1,sy (.string (bs p))),(2,sy (.string (bs f))),(3,sy (.int .i64 k)),(4,.bool g),(5,.pointer (some ⟨12,0,none⟩)),(10,Value.slice none 0 0),(11,.bool false),(12,dt 13),(13,sy (.int .i64 i))] [.dat AB l,.dat Ab m,PM q (a,b,c,d,e,()),.vec AB o 68]
def osm (x:AA [A9,.str,.str,IT,.bool]):PO:=fO prog gM (AC ar) f98 [A9,.str,.str,IT,.bool] [.slice AB,.bool] x
theorem mj (x:AA [A9,.str,.str,IT,.bool]):osm x=BV prog gM (AC ar) f98 [A9,.str,.str,IT,.bool] [.slice AB,.bool] AE x:=rfl
theorem q0 (N:Nat) (q:Int) (l:List AD) (m:List AU) (a b c d e:Int) (p f:L8) (k:Int):BV prog gM (AC ar) f98 [A9,.str,.str,IT,.bool] [.slice AB,.bool] N ((q,l,m,(a,b,c,d,e,()),()),p,f,k,true,())=au true N p f (max 1 (min k 20)) q l m a b c d e [] 0:=by kernel_rfl
theorem q8 (N:Nat) (q:Int) (l:List AD) (m:List AU) (a b c d e:Int) (p f:L8) (k:Int):BV prog gM (AC ar) f98 [A9,.str,.str,IT,.bool] [.slice AB,.bool] N ((q,l,m,(a,b,c,d,e,()),()),p,f,k,false,())=au false N p f (max 1 (min k 20)) q l m a b c d e [] 0:=by kernel_rfl
theorem q9 (N:Nat) (p f:L8) (k q:Int) (l:List AD) (m:List AU) (a b c d e:Int) (o:List AD) (i:Int):au true (N+1) p f k q l m a b c d e o i=Oq true p f k l o i (λg=>au true N p f k q l m a b c d e g (i+1)):=by kernel_rfl
theorem rA (N:Nat) (p f:L8) (k q:Int) (l:List AD) (m:List AU) (a b c d e:Int) (o:List AD) (i:Int):au false (N+1) p f k q l m a b c d e o i=Oq false p f k l o i (λg=>au false N p f k q l m a b c d e g (i+1)):=by kernel_rfl
theorem zl (g:Bool) {s:BB} (h:BZ s=true) (p f:L8) (k:Int):osm (s,p,f,k,g,())=some (BX s p f k g,CP s p f k g,()):=by
 obtain⟨q,l,m,⟨a,b,c,d,e,⟨⟩⟩,⟨⟩⟩:=s;obtain⟨j,r⟩:=Qx h;have n:=MB k;cases g
 ·rw[mj,q8,Ys];exact wT (b:=false) (p:=p) (f:=f) (k:=CT k) (l:=l) (h:=λN o i=>au false N p f (CT k) q l m a b c d e o i) (λN o i=>rA N p f (CT k) q l m a b c d e o i) n j r l.length 0 AE [] (by omega) (Nat.lt_of_le_of_lt j (by unfold AE;omega)) (Nat.le_refl _) (by simpa using n)
 ·rw[mj,q0,Ys];exact wT (b:=true) (p:=p) (f:=f) (k:=CT k) (l:=l) (h:=λN o i=>au true N p f (CT k) q l m a b c d e o i) (λN o i=>q9 N p f (CT k) q l m a b c d e o i) n j r l.length 0 AE [] (by omega) (Nat.lt_of_le_of_lt j (by unfold AE;omega)) (Nat.le_refl _) (by simpa using n)
theorem gN (a:Bool):PC 98 (Uu a):=(AN (sh:=AC ar) (AG (l:=[(53,Gr)]) ⟨SP,trivial⟩) AM func98 (by kernel_rfl) (by decide)).nice λ⟨s,p,f,k,b,()⟩ h=>zl b (by
 have h:(BZ s&&b==a)=true:=h;rw[Bool.and_eq_true] at h;exact h.1) p f k
end Go.Proofs.YtkgejlchafionaaGreatDoor
namespace Nice
def JN:Ae:=(0,false,[],())
abbrev rp (l:List Ae) (i:Int):Ae:=l.getD i.toNat (Aa).dflt
abbrev Qr (l:List AD) (i:Int):AD:=l.getD i.toNat (AB).dflt
def KM (e:AD) (n:Int):Ae×Bool:=bif decide (DF e.2.1 n<0) then(JN,false) else(rp e.2.1 (DF e.2.1 n),true)
def DU (e:AD):Bool:=decide (e.2.1.length<=1000000)
def Gq (s:BB):Bool:=decide (s.2.1.length<=1000000)&&s.2.1.all DU
def L9 (v:Ae) (is:Bool):Ae×Int:=bif is then(bif v.2.1 then(JN,10) else(v,0)) else(JN,6)
def Qs (e:AD) (n:Int):Ae×Int:=bif n==0 then L9 (CI e).1 (decide ((e.2.1.length:Int)>0)) else L9 (KM e n).1 (KM e n).2
def Cy (s:BB) (key:L8) (n:Int):Ae×Int:=bif decide (KA s.2.1 key<0) then(JN,6) else Qs (Qr s.2.1 (KA s.2.1 key)) n
def Ot:PSpec:=⟨[AB,IT],[IT],λx=>DU x.1,λx=>(DF x.1.2.1 x.2.1,())⟩
def rB:PSpec:=⟨[AB,IT],[Aa,.bool],λx=>DU x.1,λx=>((KM x.1 x.2.1).1,(KM x.1 x.2.1).2,())⟩
def gO:PSpec:=⟨[A9,.str,IT],[Aa,IT],λx=>Gq x.1,λx=>((Cy x.1 x.2.1 x.2.2.1).1,(Cy x.1 x.2.1 x.2.2.1).2,())⟩
abbrev VO:=Option (AA [Aa,IT])
def rq (v:Ae):VO:=bif v.2.1 then some (JN,10,()) else some (v,0,())
abbrev gX {α:Type} (l:List α) (i:Int):List Bool:=[decide (i.toNat<l.length),decide (0<=i),decide (i<(l.length:Int))]
def rr (l:List AD) (i:Int) (e:AD):VO:=gd (decide (e.2.1.length<=140737488355328)::gX l i) (bif decide ((e.2.1.length:Int)>0) then gd (gX l i) (rq (CI e).1) else gd (gX l i) (some (JN,6,())))
def zm (l:List AD) (i:Int) (e:AD) (n:Int) (x:Ae×Bool):VO:=
 bif x.2 then gd (DU (e.1,e.2.1,())::gX l i) (bif n==0 then(bif (CI e).2 then rr l i e else rr l i e) else rq x.1) else gd (DU (e.1,e.2.1,())::gX l i) (bif n==0 then(bif (CI e).2 then rr l i e else rr l i e) else some (JN,6,()))
def zn (l:List AD) (key:L8) (n:Int):VO:=gd [decide (l.length<=1000000)] (bif decide (KA l key<0) then some (JN,6,()) else zm l (KA l key) (Qr l (KA l key)) n (KM (Qr l (KA l key)) n))
theorem F2 {α:Type} (p:α->Bool):∀(l:List α) (i:Nat),(Cx p l i= -1/\∀x,x∈l->p x=false)\/∃k:Nat,Cx p l i=((i+k:Nat):Int)/\k<l.length
 |[],i=>.inl ⟨rfl,λx h=>by cases h⟩
 |y::r,i=>by
  unfold Cx;cases h:p y
  ·rw[if_neg (by decide)];rcases F2 p r (i+1) with⟨a,b⟩|⟨k,a,b⟩
   ·refine .inl ⟨a,λx hx=> ?_⟩;rcases List.mem_cons.1 hx with rfl|hx
    ·exact h
    ·exact b x hx
   ·exact .inr ⟨k+1,by rw[a,show i+1+k=i+(k+1) by omega],by rw[List.length_cons];omega⟩
  ·rw[if_pos rfl];exact .inr ⟨0,by rw[Nat.add_zero],by rw[List.length_cons];omega⟩
theorem gQ {α β:Type} {l:List α} {i:Nat} (h:i<l.length) (a:List Bool) (y:Option β):gd (a++gX l (i:Int)) y=gd a y:=by
 induction a generalizing y with
 |nil=>
  show gd [decide ((i:Int).toNat<l.length),decide (0<=(i:Int)),decide ((i:Int)<(l.length:Int))] y=gd [] y;rw[AP (by omega),AP (by omega),AP (by omega)]
 |cons q c b=>
  rw[List.cons_append];exact b (bif q then y else none)
theorem D5 {α β:Type} {l:List α} {i:Nat} (h:i<l.length) (y:Option β):gd (gX l (i:Int)) y=y:=(gQ h [] y).trans (xG y)
theorem H6 {α β:Type} {l:List α} {i:Nat} (h:i<l.length) {b:Bool} (a:b=true) (y:Option β):gd (b::gX l (i:Int)) y=y:=(gQ h [b] y).trans ((Ag a).trans (xG y))
end Nice
namespace Go.Proofs.YtkgejlchafionaaGreatDoor
open Tryz
open Nice
def rC (x:AA [AB,IT]):Option (AA [IT]):=fO prog (AL [(201,eQ)]) (AC []) f162 [AB,IT] [IT] x
theorem rD (key:L8) (vs:List Ae) (n:Int):rC ((key,vs,()),n,())=gd [decide (vs.length<=1000000)] (some (DF vs n,())):=by kernel_rfl
theorem Yw:PC 162 Ot:=(AN (AG (l:=[(201,eQ)]) ⟨pq,trivial⟩) AM func162 (by kernel_rfl) (by decide)).nice λ⟨⟨key,vs,()⟩,n,()⟩ h=>by
 refine(rD key vs n).trans ?_;have h:vs.length<=1000000:=of_decide_eq_true h;rw[AP h,xG]
def zo (x:AA [AB,IT]):Option (AA [Aa,.bool]):=fO prog (AL [(162,Ot)]) (AC []) f117 [AB,IT] [Aa,.bool] x
theorem zp (key:L8) (vs:List Ae) (n:Int):zo ((key,vs,()),n,())=gd [DU (key,vs,())] (bif decide (DF vs n<0) then some (JN,false,()) else gd (gX vs (DF vs n)) (some (rp vs (DF vs n),true,()))):=by kernel_rfl
theorem wa:PC 117 rB:=(AN (AG (l:=[(162,Ot)]) ⟨Yw,trivial⟩) AM func117 (by kernel_rfl) (by decide)).nice λ⟨⟨key,vs,()⟩,n,()⟩ h=>by
 refine(zp key vs n).trans ?_;have h:DU (key,vs,())=true:=h;show _=some ((KM (key,vs,()) n).1,(KM (key,vs,()) n).2,());unfold KM;rw[Ag h,xG];rcases F2 (λy:Ae=>y.1==n) vs 0 with⟨e, -⟩|⟨k,e,a⟩
 ·have e:DF vs n= -1:=e;rw[show((key,vs,()):AD).2.1=vs from rfl,e];rfl
 ·have e:DF vs n=((0+k:Nat):Int):=e;rw[Nat.zero_add] at e;rw[show((key,vs,()):AD).2.1=vs from rfl,e,Av (by omega),Av (by omega),D5 a]
def wb (x:AA [A9,.str,IT]):VO:=fO prog (AL [(115,eR),(117,rB),(118,Gr)]) (AC []) f77 [A9,.str,IT] [Aa,IT] x
theorem ACQ (q:Int) (l:List AD) (m:List AU) (a b c d e:Int) (key:L8) (n:Int):wb ((q,l,m,(a,b,c,d,e,()),()),key,n,())=zn l key n:=by kernel_rfl
theorem xu {v:Ae} {is:Bool}:(bif is then rq v else some (JN,6,()):VO)=some ((L9 v is).1,(L9 v is).2,()):=by
 unfold rq L9;cases is
 ·rfl
 ·cases v.2.1<;>rfl
theorem we {l:List AD} {i:Nat} {e:AD} (a:i<l.length) (b:e.2.1.length<=1000000):rr l (i:Int) e=some ((L9 (CI e).1 (decide ((e.2.1.length:Int)>0))).1,(L9 (CI e).1 (decide ((e.2.1.length:Int)>0))).2,()):=by
 unfold rr;rw[H6 a (decide_eq_true (by omega)),D5 a,D5 a];exact xu
theorem wg {l:List AD} {i:Nat} {e:AD} {n:Int} (a:i<l.length) (b:e.2.1.length<=1000000):zm l (i:Int) e n (KM e n)=some ((Qs e n).1,(Qs e n).2,()):=by
 have c:DU (e.1,e.2.1,())=true:=decide_eq_true b;unfold zm Qs;rw[H6 a c,H6 a c,we a b];cases n==0
 ·rw[xF,xF,xF];exact xu
 ·rw[xT,xT,xT];cases(CI e).2<;>cases(KM e n).2<;>rfl
theorem rE {s:BB} {key:L8} {n:Int} (h:Gq s=true):zn s.2.1 key n=some ((Cy s key n).1,(Cy s key n).2,()):=by
 unfold Gq at h;rw[Bool.and_eq_true,decide_eq_true_eq] at h;unfold zn Cy;rw[AP h.1,xG];rcases F2 (λy:AD=>y.1==key) s.2.1 0 with⟨e, -⟩|⟨k,e,a⟩
 ·have e:KA s.2.1 key= -1:=e;rw[e];rfl
 ·have e:KA s.2.1 key=((0+k:Nat):Int):=e;rw[Nat.zero_add] at e;have b:Qr s.2.1 (k:Int)∈s.2.1:=by
   show s.2.1.getD k _∈s.2.1;rw[List.getD_eq_getElem?_getD,List.getElem?_eq_getElem a];exact List.getElem_mem a
  rw[e,Av (by omega),Av (by omega)];exact wg a (of_decide_eq_true (List.all_eq_true.1 h.2 _ b))
theorem rF:PC 77 gO:=(AN (AG (l:=[(115,eR),(117,rB),(118,Gr)]) ⟨pr,wa,XP,trivial⟩) AM func77 (by kernel_rfl) (by decide)).nice λ⟨⟨q,l,m,⟨a,b,c,d,e,()⟩,()⟩,key,n,()⟩ h=>
 (ACQ q l m a b c d e key n).trans (rE (s:=(q,l,m,(a,b,c,d,e,()),())) h)
open Nice
abbrev Uv:List (Nat×List (Nat×Sh)):=[(4,[(8,(.one .any)),(9,(.one .sym)),(10,(.one (.dat AB))),(11,(.one .sym)),(12,(.one (.vec .str 9))),(13,(.one .sym))])]
abbrev km:Eng.Env:=AL [(98,Uu true)]
def Uw (N:Nat) (g:Bool) (o:List (L8)) (l:List AD) (i:Int):KO:=rH prog km (AC Uv) f59 [.slice .str,.bool] N 0 [(8,Value.slice none 0 0),(9,.bool false),(10,dt 10),(11,.bool g),(12,dt 11),(13,sy (.int .i64 i))] [.dat AB l,.vec .str o 9]
def wj (x:AA [A9,.str,.str,IT]):KO:=fO prog km (AC Uv) f59 [A9,.str,.str,IT] [.slice .str,.bool] x
theorem rG (x:AA [A9,.str,.str,IT]):wj x=BV prog km (AC Uv) f59 [A9,.str,.str,IT] [.slice .str,.bool] AE x:=rfl
def wk (N:Nat) (s:BB) (p f:L8) (k:Int):KO:=bif CP s p f k true then gd [BZ s&&true==true] (Uw N true [] (BX s p f k true) 0) else gd [BZ s&&true==true] (Uw N false [] (BX s p f k true) 0)
theorem rI (N:Nat) (q:Int) (l:List AD) (m:List AU) (a b c d e:Int) (p f:L8) (k:Int):BV prog km (AC Uv) f59 [A9,.str,.str,IT] [.slice .str,.bool] N ((q,l,m,(a,b,c,d,e,()),()),p,f,k,())=wk N (q,l,m,(a,b,c,d,e,()),()) p f k:=by kernel_rfl
theorem kn (N:Nat) (o:List (L8)) (l:List AD) (i:Int):Uw (N+1) true o l i=Il true l o (l.length:Int) i (λa=>Uw N true a l (i+1)):=by kernel_rfl
theorem ko (N:Nat) (o:List (L8)) (l:List AD) (i:Int):Uw (N+1) false o l i=Il false l o (l.length:Int) i (λa=>Uw N false a l (i+1)):=by kernel_rfl
theorem wm {s:BB} (h:BZ s=true) (p f:L8) (k:Int):wj (s,p,f,k,())=some (FH s p f k true,CP s p f k true,()):=by
 obtain⟨q,l,m,⟨a,b,c,d,e,⟨⟩⟩,⟨⟩⟩:=s;rw[rG,rI];unfold wk;have n:=D7 (s:=(q,l,m,(a,b,c,d,e,()),())) (p:=p) (f:=f) (k:=k) (b:=true);have g:(BX (q,l,m,(a,b,c,d,e,()),()) p f k true).length<AE:=Nat.lt_of_le_of_lt n (by unfold AE;omega);have j:(BZ (q,l,m,(a,b,c,d,e,()),())&&true==true)=true:=by rw[h];rfl
 cases CP (q,l,m,(a,b,c,d,e,()),()) p f k true
 ·rw[xF,Ag j,xG];exact hU (h:=λN o i=>Uw N false o (BX (q,l,m,(a,b,c,d,e,()),()) p f k true) i) (λN o i=>ko N o _ i) (by omega) _ 0 AE [] (Nat.zero_add _).symm g (Nat.le_refl _)
 ·rw[xT,Ag j,xG];exact hU (h:=λN o i=>Uw N true o (BX (q,l,m,(a,b,c,d,e,()),()) p f k true) i) (λN o i=>kn N o _ i) (by omega) _ 0 AE [] (Nat.zero_add _).symm g (Nat.le_refl _)
theorem gR:PC 59 KR:=(AN (sh:=AC Uv) (AG (l:=[(98,Uu true)]) ⟨gN true,trivial⟩) AM func59 (by kernel_rfl) (by decide)).nice λ⟨s,p,f,k,()⟩ h=>wm h p f k
def ACR (x:AA [A9,.str,.str,IT]):PO:=fO prog (AL [(98,Uu false)]) (AC []) f60 [A9,.str,.str,IT] [.slice AB,.bool] x
def wo (s:BB) (p f:L8) (k:Int):PO:=bif CP s p f k false then gd [BZ s&&false==false] (some (BX s p f k false,true,())) else gd [BZ s&&false==false] (some (BX s p f k false,false,()))
theorem zq (q:Int) (l:List AD) (m:List AU) (a b c d e:Int) (p f:L8) (k:Int):ACR ((q,l,m,(a,b,c,d,e,()),()),p,f,k,())=wo (q,l,m,(a,b,c,d,e,()),()) p f k:=by kernel_rfl
theorem kp:PC 60 PP:=(AN (AG (l:=[(98,Uu false)]) ⟨gN false,trivial⟩) AM func60 (by kernel_rfl) (by decide)).nice λ⟨⟨q,l,m,⟨a,b,c,d,e,()⟩,()⟩,p,f,k,()⟩ h=>by
 have h:BZ (q,l,m,(a,b,c,d,e,()),())=true:=h;have g:(BZ (q,l,m,(a,b,c,d,e,()),())&&false==false)=true:=by rw[h];rfl
 show ACR _=some (BX (q,l,m,(a,b,c,d,e,()),()) p f k false,CP (q,l,m,(a,b,c,d,e,()),()) p f k false,());rw[zq];unfold wo;cases CP (q,l,m,(a,b,c,d,e,()),()) p f k false
 ·rw[xF,Ag g,xG]
 ·rw[xT,Ag g,xG]
def rJ (x:AA [A9,Ah]):rT:=fO prog (AL [(59,KR),(60,PP)]) (AC []) f33 [A9,Ah] [Gz] x
theorem rK (q:Int) (l:List AD) (m:List AU) (a b c d e g:Int) (key:L8) (v:Int) (h:L8) (i:Int) (t p f:L8) (j:Int) (k:Bool):rJ ((q,l,m,(a,b,c,d,e,()),()),(g,key,v,h,i,t,p,f,j,k,()),())=XG (q,l,m,(a,b,c,d,e,()),()) (g,key,v,h,i,t,p,f,j,k,()):=by kernel_rfl
theorem kq:PC 33 XF:=(AN (AG (l:=[(59,KR),(60,PP)]) ⟨gR,kp,trivial⟩) AM func33 (by kernel_rfl) (by decide)).nice λ⟨⟨q,l,m,⟨a,b,c,d,e,()⟩,()⟩,⟨g,key,v,i,j,t,p,f,k,n,()⟩,()⟩ h=>(rK q l m a b c d e g key v i j t p f k n).trans (gJ h)
abbrev gS:List (Nat×List (Nat×Sh)):=[(3,[(1,(.obj [.sym,(.dat AB),(.dat Ab),.sym,.sym,.sym,.sym,.sym])),(2,(.obj [.sym,.any,.any,.sym,.sym,.sym,.sym,.sym])),(3,(.one (.vec AB 68))),(4,(.one .sym))])]
def SQ (N:Nat) (q:Int) (l:List AD) (m:List AU) (a b c d e:Int) (o:List AD) (i:Int):rn:=rH prog (AL [(23,QM)]) (AC gS) f8 [A9] N 0 [(1,.pointer (some ⟨12,0,none⟩)),(2,.pointer (some ⟨13,0,none⟩)),(3,dt 14),(4,sy (.int .i64 i))] [.dat AB l,.dat Ab m,PM q (a,b,c,d,e,()),.row [sy (.int .i64 0),Value.slice none 0 0,Value.slice none 0 0,sy (.int .i64 0),sy (.int .i64 0),sy (.int .i64 0),sy (.int .i64 0),sy (.int .i64 0)] 28 false,.vec AB o 68]
def ost (x:AA [A9]):rn:=fO prog (AL [(23,QM)]) (AC gS) f8 [A9] [A9] x
theorem wq (x:AA [A9]):ost x=BV prog (AL [(23,QM)]) (AC gS) f8 [A9] [A9] AE x:=rfl
theorem wt (N:Nat) (q:Int) (l:List AD) (m:List AU) (a b c d e:Int):BV prog (AL [(23,QM)]) (AC gS) f8 [A9] [A9] N ((q,l,m,(a,b,c,d,e,()),()),())=SQ N q l m a b c d e [] 0:=by kernel_rfl
theorem wu (N:Nat) (q:Int) (l:List AD) (m:List AU) (a b c d e:Int) (o:List AD) (i:Int):SQ (N+1) q l m a b c d e o i=SN q l m (a,b,c,d,e,()) o i (λf=>SQ N q l m a b c d e f (i+1)):=by kernel_rfl
theorem zr {q:Int} {l:List AD} {m:List AU} {a b c d e:Int} (f:∀x,x∈l->x.2.1.length<=140737488355328):ost ((q,l,m,(a,b,c,d,e,()),()),())=some (E0 (q,l,m,(a,b,c,d,e,()),()),()):=by
 rw[wq,wt];exact zi (h:=λN o i=>SQ N q l m a b c d e o i) (λN o i=>wu N q l m a b c d e o i) f (min l.length 42) 0 AE [] (by omega) (Nat.lt_of_le_of_lt (Nat.min_le_right _ 42) (by unfold AE;omega)) (Nat.le_refl _)
theorem zs:PC 8 zh:=(AN (sh:=AC gS) (AG (l:=[(23,QM)]) ⟨ACH,trivial⟩) AM func8 (by kernel_rfl) (by decide)).nice λ⟨⟨q,l,m,⟨a,b,c,d,e,()⟩,()⟩,()⟩ h=>zr λx f=>of_decide_eq_true (List.all_eq_true.1 (show(l.all λe=>decide (e.2.1.length<=140737488355328))=true from h) x f)
end Go.Proofs.YtkgejlchafionaaGreatDoor
namespace Nice
def KN (key:L8):List AD->Nat->Int×Bool
 |[],i=>((i:Int),false)
 |e::r,i=>bif Op.bytesLess e.1 key then KN key r (i+1) else((i:Int),e.1==key)
def C6 (n:Int):List Ae->Nat->Int×Bool
 |[],_=>(0,false)
 |v::r,i=>bif v.1==n then((i:Int),true) else C6 n r (i+1)
def Ou (e:AD) (n:Int):Ae×Int:=bif n !=0 then L9 (rp e.2.1 (C6 n e.2.1 0).1) (C6 n e.2.1 0).2 else L9 (CI e).1 true
def Dk (s:BB) (key:L8) (n:Int):Ae×Int:=bif (KN key s.2.1 0).2 then Ou (Qr s.2.1 (KN key s.2.1 0).1) n else(JN,6)
def gT:PSpec:=⟨[A9,.str],[IT,.bool],λx=>decide (x.1.2.1.length<=1000000),λx=>((KN x.2.1 x.1.2.1 0).1,(KN x.2.1 x.1.2.1 0).2,())⟩
def gU:PSpec:=⟨[AB,IT],[IT,.bool],λx=>DU x.1,λx=>((C6 x.2.1 x.1.2.1 0).1,(C6 x.2.1 x.1.2.1 0).2,())⟩
def gW:PSpec:=⟨[A9,.str,IT],[Aa,IT],λx=>Gq x.1,λx=>((Dk x.1 x.2.1 x.2.2.1).1,(Dk x.1 x.2.1 x.2.2.1).2,())⟩
abbrev kr:=Option (AA [IT,.bool])
def xv (l:List AD) (i:Int) (key:L8):kr:=bif decide (i<(l.length:Int)) then(bif (Qr l i).1==key then gd (gX l i) (some (i,true,())) else gd (gX l i) (some (i,false,()))) else some (i,false,())
def XH (l:List AD) (i:Int) (key:L8) (a:kr):kr:=bif decide (i<(l.length:Int)) then(bif Op.bytesLess (Qr l i).1 key then gd (decide (Ad .i64 (i+1))::gX l i) a else gd (gX l i) (xv l i key)) else xv l i key
def SR (vs:List Ae) (i n:Int) (a:kr):kr:=bif decide (i<(vs.length:Int)) then(bif (rp vs i).1==n then gd (gX vs i) (some (i,true,())) else gd (decide (Ad .i64 (i+1))::gX vs i) a) else some (0,false,())
def xw (l:List AD) (P:Int) (e:AD) (n:Int):VO:=gd (decide (e.2.1.length<=140737488355328)::gX l P) (bif n !=0 then(bif (C6 n e.2.1 0).2 then gd (gX e.2.1 (C6 n e.2.1 0).1++(gX l P++DU (e.1,e.2.1,())::gX l P)) (rq (rp e.2.1 (C6 n e.2.1 0).1)) else gd (DU (e.1,e.2.1,())::gX l P) (some (JN,6,()))) else rq (CI e).1)
def zt (l:List AD) (key:L8) (n:Int):VO:=bif (KN key l 0).2 then gd [decide (l.length<=1000000)] (bif (CI (Qr l (KN key l 0).1)).2 then xw l (KN key l 0).1 (Qr l (KN key l 0).1) n else xw l (KN key l 0).1 (Qr l (KN key l 0).1) n) else gd [decide (l.length<=1000000)] (some (JN,6,()))
end Nice
namespace Go.Proofs.YtkgejlchafionaaGreatDoor
open Tryz
open Nice
abbrev gY:List (Nat×List (Nat×Sh)):=[(2,[(1,.one .sym),(2,.obj [.sym,.dat AB,.dat Ab,.sym,.sym,.sym,.sym,.sym]),(6,.one .sym)])]
abbrev Ux:List (Nat×List (Nat×Sh)):=[(2,[(1,.one .sym),(2,.obj [.sym,.dat Aa]),(6,.one .sym)])]
def ga (N:Nat) (s:BB) (key:L8) (i:Int):kr:=rH prog (AL []) (AC gY) f52 [IT,.bool] N 0 [(1,sy (.string (bs key))),(2,.pointer (some ⟨12,0,none⟩)),(6,sy (.int .i64 i))] [.dat AB s.2.1,.dat Ab s.2.2.1,.row [sy (.int .i64 s.1),dt 10,dt 11,sy (.int .i64 s.2.2.2.1.1),sy (.int .i64 s.2.2.2.1.2.1),sy (.int .i64 s.2.2.2.1.2.2.1),sy (.int .i64 s.2.2.2.1.2.2.2.1),sy (.int .i64 s.2.2.2.1.2.2.2.2.1)] 28 false]
def kt (N:Nat) (key:L8) (vs:List Ae) (n i:Int):kr:=rH prog (AL []) (AC Ux) f54 [IT,.bool] N 0 [(1,sy (.int .i64 n)),(2,.pointer (some ⟨11,0,none⟩)),(6,sy (.int .i64 i))] [.dat Aa vs,.row [sy (.string (bs key)),dt 10] 68 false]
def opl (x:AA [A9,.str]):kr:=fO prog (AL []) (AC gY) f52 [A9,.str] [IT,.bool] x
def oat (x:AA [AB,IT]):kr:=fO prog (AL []) (AC Ux) f54 [AB,IT] [IT,.bool] x
theorem wv (x:AA [A9,.str]):opl x=BV prog (AL []) (AC gY) f52 [A9,.str] [IT,.bool] AE x:=rfl
theorem ACS (x:AA [AB,IT]):oat x=BV prog (AL []) (AC Ux) f54 [AB,IT] [IT,.bool] AE x:=rfl
theorem wx (N:Nat) (q:Int) (l:List AD) (m:List AU) (a b c d e:Int) (key:L8):BV prog (AL []) (AC gY) f52 [A9,.str] [IT,.bool] N ((q,l,m,(a,b,c,d,e,()),()),key,())=ga N (q,l,m,(a,b,c,d,e,()),()) key 0:=by kernel_rfl
theorem ml (N:Nat) (s:BB) (key:L8) (i:Int):ga (N+1) s key i=XH s.2.1 i key (ga N s key (i+1)):=by kernel_rfl
theorem wy (N:Nat) (key:L8) (vs:List Ae) (n:Int):BV prog (AL []) (AC Ux) f54 [AB,IT] [IT,.bool] N ((key,vs,()),n,())=kt N key vs n 0:=by kernel_rfl
theorem mm (N:Nat) (key:L8) (vs:List Ae) (n i:Int):kt (N+1) key vs n i=SR vs i n (kt N key vs n (i+1)):=by kernel_rfl
def wz (x:AA [A9,.str,IT]):VO:=fO prog (AL [(52,gT),(53,Gr),(54,gU)]) (AC []) f29 [A9,.str,IT] [Aa,IT] x
theorem w3 (q:Int) (l:List AD) (m:List AU) (a b c d e:Int) (key:L8) (n:Int):wz ((q,l,m,(a,b,c,d,e,()),()),key,n,())=zt l key n:=by kernel_rfl
theorem w4 {s:BB} {key:L8} (f:s.2.1.length<=1000000):∀(L:List AD) (i N:Nat),s.2.1.drop i=L->i+L.length=s.2.1.length->L.length<N->ga N s key (i:Int)=some ((KN key L i).1,(KN key L i).2,())
 |[],i,N,hd,c,hN=>by
  obtain⟨N,rfl⟩:∃k,N=k+1:=⟨N-1,by omega⟩
  simp only[List.length_nil] at c;rw[ml];unfold XH xv;rw[Av (by omega),Av (by omega)];rfl
 |e::r,i,N,hd,c,hN=>by
  simp only[List.length_cons] at c hN;obtain⟨N,rfl⟩:∃k,N=k+1:=⟨N-1,by omega⟩
  have a:i<s.2.1.length:=by omega
  have b:=List.drop_eq_getElem_cons a;rw[hd] at b;have d:Qr s.2.1 (i:Int)=e:=by
   show s.2.1.getD i _=e;rw[List.getD_eq_getElem?_getD,List.getElem?_eq_getElem a];exact(List.cons.inj b).1.symm
  have g:s.2.1.drop (i+1)=r:=(List.cons.inj b).2.symm;have h:=w4 (key:=key) f r (i+1) N g (by omega) (by omega);rw[ml];unfold XH KN;rw[Au (by omega),d];cases Op.bytesLess e.1 key
  ·rw[xF,xF,D5 a];unfold xv;rw[Au (by omega),d,D5 a,D5 a];cases e.1==key<;>rfl
  ·rw[xT,xT,H6 a (decide_eq_true (AH.2 ⟨by omega,by omega⟩))];exact h
theorem mn:PC 52 gT:=(AN (sh:=AC gY) (AG (l:=[]) trivial) AM func52 (by kernel_rfl) (by decide)).nice λ⟨⟨q,l,m,⟨a,b,c,d,e,()⟩,()⟩,key,()⟩ h=>by
 have h:l.length<=1000000:=of_decide_eq_true h;show opl _=_;rw[wv,wx];exact w4 (s:=(q,l,m,(a,b,c,d,e,()),())) h l 0 AE rfl (Nat.zero_add _) (Nat.lt_of_le_of_lt h (by unfold AE;omega))
theorem w5 {key:L8} {vs:List Ae} {n:Int} (d:vs.length<=1000000):∀(L:List Ae) (i N:Nat),vs.drop i=L->i+L.length=vs.length->L.length<N->kt N key vs n (i:Int)=some ((C6 n L i).1,(C6 n L i).2,())
 |[],i,N,hd,c,hN=>by
  obtain⟨N,rfl⟩:∃k,N=k+1:=⟨N-1,by omega⟩
  simp only[List.length_nil] at c;rw[mm];unfold SR;rw[Av (by omega)];rfl
 |e::r,i,N,hd,c,hN=>by
  simp only[List.length_cons] at c hN;obtain⟨N,rfl⟩:∃k,N=k+1:=⟨N-1,by omega⟩
  have a:i<vs.length:=by omega
  have b:=List.drop_eq_getElem_cons a;rw[hd] at b;have f:rp vs (i:Int)=e:=by
   show vs.getD i _=e;rw[List.getD_eq_getElem?_getD,List.getElem?_eq_getElem a];exact(List.cons.inj b).1.symm
  have g:vs.drop (i+1)=r:=(List.cons.inj b).2.symm;have h:=w5 (key:=key) (n:=n) d r (i+1) N g (by omega) (by omega);rw[mm];unfold SR C6;rw[Au (by omega),f];cases e.1==n
  ·rw[xF,xF,H6 a (decide_eq_true (AH.2 ⟨by omega,by omega⟩))];exact h
  ·rw[xT,xT,D5 a]
theorem mo:PC 54 gU:=(AN (sh:=AC Ux) (AG (l:=[]) trivial) AM func54 (by kernel_rfl) (by decide)).nice λ⟨⟨key,vs,()⟩,n,()⟩ h=>by
 have h:vs.length<=1000000:=of_decide_eq_true h;show oat _=_;rw[ACS,wy];exact w5 h vs 0 AE rfl (Nat.zero_add _) (Nat.lt_of_le_of_lt h (by unfold AE;omega))
theorem gb (key:L8):∀(l:List AD) (i:Nat),(KN key l i).2=true->∃k:Nat,(KN key l i).1=((i+k:Nat):Int)/\k<l.length
 |[],i,h=>by cases h
 |e::r,i,h=>by
  unfold KN at h⊢;cases a:Op.bytesLess e.1 key
  ·rw[xF];exact⟨0,rfl,by rw[List.length_cons];omega⟩
  ·rw[a,xT] at h;obtain⟨k,b,c⟩:=gb key r (i+1) h;rw[xT];exact⟨k+1,by rw[b,show i+1+k=i+(k+1) by omega],by rw[List.length_cons];omega⟩
theorem Yx (n:Int):∀(l:List Ae) (i:Nat),(C6 n l i).2=true->∃k:Nat,(C6 n l i).1=((i+k:Nat):Int)/\k<l.length
 |[],i,h=>by cases h
 |e::r,i,h=>by
  unfold C6 at h⊢;cases a:e.1==n
  ·rw[a,xF] at h;obtain⟨k,b,c⟩:=Yx n r (i+1) h;rw[xF];exact⟨k+1,by rw[b,show i+1+k=i+(k+1) by omega],by rw[List.length_cons];omega⟩
  ·rw[xT];exact⟨0,rfl,by rw[List.length_cons];omega⟩
theorem w6 {l:List AD} {i:Nat} {e:AD} {n:Int} (a:i<l.length) (d:e.2.1.length<=1000000):xw l (i:Int) e n=some ((Ou e n).1,(Ou e n).2,()):=by
 have b:DU (e.1,e.2.1,())=true:=decide_eq_true d;unfold xw Ou;rw[H6 a (decide_eq_true (by omega))];cases n !=0
 ·rw[xF,xF];exact xu (is:=true)
 ·rw[xT,xT];cases f:(C6 n e.2.1 0).2
  ·rw[xF,H6 a b];rfl
  ·obtain⟨k,c,g⟩:=Yx n e.2.1 0 f;rw[Nat.zero_add] at c;rw[xT,c,show gX e.2.1 (k:Int)++(gX l (i:Int)++DU (e.1,e.2.1,())::gX l (i:Int))=(gX e.2.1 (k:Int)++gX l (i:Int)++[DU (e.1,e.2.1,())])++gX l (i:Int) from by simp only[List.cons_append,List.nil_append],gQ a];rw[show gX e.2.1 (k:Int)++gX l (i:Int)++[DU (e.1,e.2.1,())]=decide ((k:Int).toNat<e.2.1.length)::decide (0<=(k:Int))::decide ((k:Int)<(e.2.1.length:Int))::decide ((i:Int).toNat<l.length)::decide (0<=(i:Int))::decide ((i:Int)<(l.length:Int))::[DU (e.1,e.2.1,())] from rfl,
    AP (by omega),AP (by omega),AP (by omega),AP (by omega),AP (by omega),AP (by omega),Ag b,xG]
   exact xu (is:=true)
theorem rL {s:BB} {key:L8} {n:Int} (h:Gq s=true):zt s.2.1 key n=some ((Dk s key n).1,(Dk s key n).2,()):=by
 unfold Gq at h;rw[Bool.and_eq_true,decide_eq_true_eq] at h;unfold zt Dk;rw[AP h.1,AP h.1,xG,xG];cases b:(KN key s.2.1 0).2
 ·rfl
 ·obtain⟨k,e,a⟩:=gb key s.2.1 0 b;rw[Nat.zero_add] at e;have c:Qr s.2.1 (k:Int)∈s.2.1:=by
   show s.2.1.getD k _∈s.2.1;rw[List.getD_eq_getElem?_getD,List.getElem?_eq_getElem a];exact List.getElem_mem a
  rw[e,w6 a (of_decide_eq_true (List.all_eq_true.1 h.2 _ c)),xT,xT];cases(CI (Qr s.2.1 (k:Int))).2<;>rfl
theorem rM:PC 29 gW:=(AN (AG (l:=[(52,gT),(53,Gr),(54,gU)]) ⟨mn,SP,mo,trivial⟩) AM func29 (by kernel_rfl) (by decide)).nice λ⟨⟨q,l,m,⟨a,b,c,d,e,()⟩,()⟩,key,n,()⟩ h=>
 (w3 q l m a b c d e key n).trans (rL (s:=(q,l,m,(a,b,c,d,e,()),())) h)
