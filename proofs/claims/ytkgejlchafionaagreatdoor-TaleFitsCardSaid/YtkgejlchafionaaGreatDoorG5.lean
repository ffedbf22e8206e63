/-
  Part of the proof. No condition.
-/
import Derived.Test.YtkgejlchafionaaGreatDoorBegD
import Derived.Deep.LoopGhost
set_option maxRecDepth 1000000
open Go Go.Eng
noncomputable section
namespace Nice
theorem xT {α:Type} (a b:α):(bif true then a else b)=a:=Eq.trans (cond_true a b) rfl
theorem xF {α:Type} (a b:α):(bif false then a else b)=b:=Eq.trans (cond_false a b) rfl
theorem xG {α:Type} (r:Option α):gd [] r=r:=Eq.trans BM rfl
abbrev BO:=Option (AA [.bool])
def bO (b:Bool):Option (AA [.bool]):=some (b,())
abbrev Aa:Ty:=.pair (.int .i64) (.pair .bool (.pair .str .unit))
abbrev AB:Ty:=.pair .str (.pair (.slice Aa) .unit)
abbrev Ae:Type:=Int×Bool×L8×Unit
abbrev AD:Type:=L8×List Ae×Unit
def CS (v:Ae):Bool:=decide (1<=v.1)&&(decide (v.1<=1099511627776)&&(decide (v.2.2.1.length<=300)&&(!v.2.1||v.2.2.1==[])))
def Hu:Int->List Ae->Bool
 |_,[]=>true
 |last,v::r=>CS v&&(decide (last<v.1)&&Hu v.1 r)
theorem N8 (a:Int) (v:Ae) (r:List Ae):Hu a (v::r)=(CS v&&(decide (a<v.1)&&Hu v.1 r)):=rfl
def Bh (e:AD):Bool:=Hu 0 e.2.1&&(isKey e.1&&(decide (1<=e.2.1.length)&&decide (e.2.1.length<=12)))
def CN (e:AD):Bool:=AY e.1&&decide (e.2.1.length<=140737488355328)
def aR:PSpec:=⟨[Aa],[.bool],λ_=>true,λx=>(CS x.1,())⟩
def GU:PSpec:=⟨[AB],[.bool],λx=>CN x.1,λx=>(Bh x.1,())⟩
def L4 (v:Ae):Ae:=(v.1,v.2.1,cut v.2.2.1 302,())
def Gl (e:AD):AD:=(cut e.1 42,(e.2.1.take 14).map L4,())
def QM:PSpec:=⟨[AB],[AB],λx=>decide (x.1.2.1.length<=140737488355328),λx=>(Gl x.1,())⟩
def pk (n:Int) (g:Bool) (b:L8):BO:=bif decide (n>=1) then(bif decide (n<=1099511627776) then(bif decide ((b.length:Int)<=300) then(bif g then(bif b==[] then bO true else bO false) else bO true) else bO false) else bO false) else bO false
theorem ACF (n:Int) (g:Bool) (b:L8):pk n g b=some (CS (n,g,b,()),()):=by
 unfold pk CS;dsimp only;by_cases a:n>=1
 ·rw[Au a,decide_eq_true (show 1<=n from a),Bool.true_and];by_cases c:n<=1099511627776
  ·rw[Au c,decide_eq_true c,Bool.true_and];by_cases d:b.length<=300
   ·rw[Au (show(b.length:Int)<=300 by omega),decide_eq_true d,Bool.true_and];cases g
    ·rfl
    ·cases b==[]<;>rfl
   ·rw[Av (show ¬(b.length:Int)<=300 by omega),decide_eq_false d];rfl
  ·rw[Av c,decide_eq_false c];rfl
 ·rw[Av a,decide_eq_false (show ¬1<=n from a)];rfl
def ju (k:L8) (l:List Ae):BO:=bif isKey k then(bif decide ((l.length:Int)>=1) then(bif decide ((l.length:Int)<=12) then gd [AY k] (bO true) else gd [AY k] (bO false)) else gd [AY k] (bO false)) else gd [AY k] (bO false)
theorem eM {k:L8} {l:List Ae} (h:AY k=true):ju k l=some (isKey k&&(decide (1<=l.length)&&decide (l.length<=12)),()):=by
 unfold ju;cases isKey k
 ·rw[xF,Ag h,xG];rfl
 ·rw[xT];by_cases a:1<=l.length
  ·rw[Au (by omega),decide_eq_true a];by_cases b:l.length<=12
   ·rw[Au (by omega),decide_eq_true b,Ag h,xG];rfl
   ·rw[Av (by omega),decide_eq_false b,Ag h,xG];rfl
  ·rw[Av (by omega),decide_eq_false a,Ag h,xG];rfl
def Wh (k:L8) (l:List Ae) (a:Int) (b:List Ae) (m i:Int) (c:BO):BO:=
 bif decide (i<m) then gd [decide (i.toNat<b.length),decide (0<=i),decide (i<(b.length:Int))] (bif CS (b.getD i.toNat (Aa).dflt) then(bif decide ((b.getD i.toNat (Aa).dflt).1<=a) then bO false else gd [decide (Ad .i64 (i+1))] c) else bO false) else ju k l
abbrev gP (l:List Ae) (i:Int):List Bool:=[decide ((i-1).toNat<l.length),decide (0<=i-1),decide (i-1<(l.length:Int)),decide (Ad .i64 (i-1))]
def YT (v:Ae) (b a:BO):BO:=bif decide ((v.2.2.1.length:Int)>300) then b else bif v.2.1 then(bif !v.2.2.1==[] then b else a) else a
def Wj (k:L8) (l:List Ae) (i:Int) (a:BO):BO:=
 bif decide (i<(l.length:Int)) then gd [decide (i.toNat<l.length),decide (0<=i),decide (i<(l.length:Int))] (bif decide ((l.getD i.toNat (Aa).dflt).1<1) then bO false else bif decide ((l.getD i.toNat (Aa).dflt).1>1099511627776) then bO false
  else bif decide (i>0) then(bif decide ((l.getD i.toNat (Aa).dflt).1<=(l.getD (i-1).toNat (Aa).dflt).1) then gd (gP l i) (bO false) else YT (l.getD i.toNat (Aa).dflt) (gd (gP l i) (bO false)) (gd (decide (Ad .i64 (i+1))::gP l i) a))
  else YT (l.getD i.toNat (Aa).dflt) (bO false) (gd [decide (Ad .i64 (i+1))] a)) else ju k l
end Nice
namespace Go.Proofs.YtkgejlchafionaaGreatDoor
open Tryz
open Nice Go.RowKit
def over (x:AA [Aa]):BO:=fO prog (AL []) (AC []) f147 [Aa] [.bool] x
theorem y9 (n:Int) (g:Bool) (b:L8):over ((n,g,b,()),())=pk n g b:=by kernel_rfl
theorem uv:PC 147 aR:=(AN (AG (l:=[]) trivial) AM func147 (by kernel_rfl) (by decide)).nice λ⟨⟨n,g,b,()⟩,()⟩ _=>by
 show over _=_;rw[y9];exact ACF n g b
abbrev N9:List (Nat×List (Nat×Sh)):=[(3,[(1,(.obj [.sym,(.dat Aa)])),(2,(.one .sym)),(3,(.one .sym)),(7,(.one (.dat Aa))),(8,(.one .sym)),(9,(.one .sym))])]
def YU (N:Nat) (k:L8) (l:List Ae) (c:Bool) (a:Int) (b:List Ae) (m i:Int):BO:=rH prog (AL [(100,Az),(147,aR)]) (AC N9) f99 [.bool] N 0 [(1,.pointer (some ⟨11,0,none⟩)),(2,.bool c),(3,sy (.int .i64 a)),(7,dt 12),(8,sy (.int .i64 m)),(9,sy (.int .i64 i))] [.dat Aa l,.row [sy (.string (bs k)),dt 10] 68 false,.dat Aa b]
def mL (x:AA [AB]):BO:=fO prog (AL [(100,Az),(147,aR)]) (AC N9) f99 [AB] [.bool] x
theorem jv (x:AA [AB]):mL x=BV prog (AL [(100,Az),(147,aR)]) (AC N9) f99 [AB] [.bool] AE x:=rfl
theorem jw (N:Nat) (k:L8) (l:List Ae):BV prog (AL [(100,Az),(147,aR)]) (AC N9) f99 [AB] [.bool] N ((k,l,()),())=YU N k l false 0 l (l.length:Int) 0:=by kernel_rfl
theorem YV (N:Nat) (k:L8) (l:List Ae) (c:Bool) (a:Int) (b:List Ae) (m i:Int):YU (N+1) k l c a b m i=Wh k l a b m i (YU N k l c (b.getD i.toNat (Aa).dflt).1 b m (i+1)):=by kernel_rfl
theorem ACG (k:L8) (l:List Ae) (d:AY k=true) (g:l.length<=140737488355328):∀(r i N:Nat) (a:Int),l.length=i+r->r<N->YU N k l false a l (l.length:Int) (i:Int)=some (Hu a (l.drop i)&&(isKey k&&(decide (1<=l.length)&&decide (l.length<=12))),()):=by
 intro r
 induction r with
 |zero=>
  intro i N a e hN;obtain⟨N,rfl⟩:∃m,N=m+1:=⟨N-1,by omega⟩
  rw[YV];unfold Wh;rw[Av (by omega),eM d,List.drop_eq_nil_of_le (by omega)];rfl
 |succ r f=>
  intro i N a e hN;obtain⟨N,rfl⟩:∃m,N=m+1:=⟨N-1,by omega⟩
  have b:i<l.length:=by omega
  have hd:l.drop i=l.getD i (Aa).dflt::l.drop (i+1):=by
   rw[List.drop_eq_getElem_cons b,List.getD_eq_getElem?_getD,List.getElem?_eq_getElem b];rfl
  have this:=f (i+1) N (l.getD i (Aa).dflt).1 (by omega) (by omega);simp only[Int.natCast_add,Int.natCast_one] at this;rw[YV];unfold Wh;rw[Au (by omega),show(i:Int).toNat=i from rfl,AP b,AP (by omega),AP (by omega),xG,hd,this,N8];have c:Ad .i64 ((i:Int)+1):=AH.2 ⟨by omega,by omega⟩
  cases CS (l.getD i (Aa).dflt)
  ·rfl
  ·rw[xT,Bool.true_and];by_cases h:(l.getD i (Aa).dflt).1<=a
   ·rw[Au h,decide_eq_false (show ¬a<(l.getD i (Aa).dflt).1 by omega)];rfl
   ·rw[Av h,decide_eq_true (show a<(l.getD i (Aa).dflt).1 by omega),AP c,xG,Bool.true_and]
theorem ABb:PC 99 GU:=(AN (sh:=AC N9) (AG (l:=[(100,Az),(147,aR)]) ⟨M8,uv,trivial⟩) AM func99 (by kernel_rfl) (by decide)).nice λ⟨⟨k,l,()⟩,()⟩ h=>by
 have h:(AY k&&decide (l.length<=140737488355328))=true:=h;rw[Bool.and_eq_true,decide_eq_true_eq] at h;show mL _=some (Bh (k,l,()),());rw[jv,jw];exact ACG k l h.1 h.2 l.length 0 AE 0 (by omega) (by unfold AE;omega)
abbrev T9:List (Nat×List (Nat×Sh)):=[(2,[(1,(.obj [.sym,(.dat Aa)])),(2,(.one .sym)),(3,(.one .sym))])]
def jx (N:Nat) (k:L8) (l:List Ae) (c:Bool) (i:Int):BO:=rH prog (AL [(26,Az)]) (AC T9) f24 [.bool] N 0 [(1,.pointer (some ⟨11,0,none⟩)),(2,.bool c),(3,sy (.int .i64 i))] [.dat Aa l,.row [sy (.string (bs k)),dt 10] 68 false]
def uw (x:AA [AB]):BO:=fO prog (AL [(26,Az)]) (AC T9) f24 [AB] [.bool] x
theorem pn (x:AA [AB]):uw x=BV prog (AL [(26,Az)]) (AC T9) f24 [AB] [.bool] AE x:=rfl
theorem po (N:Nat) (k:L8) (l:List Ae):BV prog (AL [(26,Az)]) (AC T9) f24 [AB] [.bool] N ((k,l,()),())=jx N k l false 0:=by kernel_rfl
theorem eO (N:Nat) (k:L8) (l:List Ae) (c:Bool) (i:Int):jx (N+1) k l c i=Wj k l i (jx N k l c (i+1)):=by kernel_rfl
theorem YW {v:Ae} {a:Int} {e c:BO} {b:Bool} (f:¬v.1<1) (i:¬v.1>1099511627776) (d:a<v.1) (j:e=bO false) (k:c=bO b):YT v e c=some (CS v&&(decide (a<v.1)&&b),()):=by
 obtain⟨n,g,t,⟨⟩⟩:=v;have f:¬n<1:=f;have i:¬n>1099511627776:=i;have d:a<n:=d;unfold YT CS;dsimp only;rw[decide_eq_true (show 1<=n by omega),decide_eq_true (show n<=1099511627776 by omega),decide_eq_true d,j,k];by_cases h:t.length<=300
 ·rw[Av (by omega),decide_eq_true h];cases g
  ·rfl
  ·cases t==[]<;>rfl
 ·rw[Au (by omega),decide_eq_false h];rfl
theorem ux (k:L8) (l:List Ae) (p:AY k=true) (A:l.length<=140737488355328):∀(r i N:Nat) (a:Int),l.length=i+r->r<N->(i=0->a=0)->(0<i->a=(l.getD (i-1) (Aa).dflt).1)->jx N k l false (i:Int)=some (Hu a (l.drop i)&&(isKey k&&(decide (1<=l.length)&&decide (l.length<=12))),()):=by
 intro r
 induction r with
 |zero=>
  intro i N a q hN _ _;obtain⟨N,rfl⟩:∃m,N=m+1:=⟨N-1,by omega⟩
  rw[eO];unfold Wj;rw[Av (by omega),eM p,List.drop_eq_nil_of_le (by omega)];rfl
 |succ r s=>
  intro i N a q hN t u;obtain⟨N,rfl⟩:∃m,N=m+1:=⟨N-1,by omega⟩
  have b:i<l.length:=by omega
  have hd:l.drop i=l.getD i (Aa).dflt::l.drop (i+1):=by
   rw[List.drop_eq_getElem_cons b,List.getD_eq_getElem?_getD,List.getElem?_eq_getElem b];rfl
  have this:=s (i+1) N (l.getD i (Aa).dflt).1 (by omega) (by omega) (λh=>by omega) (λ_=>rfl);simp only[Int.natCast_add,Int.natCast_one] at this;have c:Ad .i64 ((i:Int)+1):=AH.2 ⟨by omega,by omega⟩;have d:(Hu a (l.getD i (Aa).dflt::l.drop (i+1))&&(isKey k&&(decide (1<=l.length)&&decide (l.length<=12))))=(CS (l.getD i (Aa).dflt)&&(decide (a<(l.getD i (Aa).dflt).1)&&(Hu (l.getD i (Aa).dflt).1 (l.drop (i+1))&&(isKey k&&(decide (1<=l.length)&&decide (l.length<=12)))))):=by
   show((CS _&&(decide _&&Hu _ _))&&_)=_;rw[Bool.and_assoc,Bool.and_assoc]
  rw[eO];unfold Wj;rw[Au (by omega),show(i:Int).toNat=i from rfl,AP b,AP (by omega),AP (by omega),xG,hd,d,this];generalize B:l.getD i (Aa).dflt=v;have lo:v.1<1->CS v=false:=λh=>by unfold CS;rw[decide_eq_false (show ¬1<=v.1 by omega)];rfl
  have w:v.1>1099511627776->CS v=false:=λh=>by unfold CS;rw[decide_eq_false (show ¬v.1<=1099511627776 by omega)];exact Bool.and_false _
  by_cases f:v.1<1
  ·rw[Au f,lo f];rfl
  rw[Av f];by_cases g:v.1>1099511627776
  ·rw[Au g,w g];rfl
  rw[Av g];by_cases y:i=0
  ·have z:=t y;rw[Av (show ¬(i:Int)>0 by omega)];exact YW f g (by omega) rfl (by rw[AP c,xG];rfl)
  ·have j:=u (by omega);have e:((i:Int)-1).toNat=i-1:=by omega
   have n:∀x:BO,gd (gP l (i:Int)) x=x:=λx=>by
    unfold gP;rw[e,AP (by omega),AP (by omega),AP (by omega),AP (AH.2 ⟨by omega,by omega⟩),xG]
   rw[Au (show(i:Int)>0 by omega),e,<-j,n];by_cases o:v.1<=a
   ·rw[Au o,decide_eq_false (show ¬a<v.1 by omega),Bool.false_and,Bool.and_false];rfl
   ·rw[Av o];exact YW f g (by omega) rfl (by rw[AP c,n];rfl)
theorem mM:PC 24 GU:=(AN (sh:=AC T9) (AG (l:=[(26,Az)]) ⟨Vd,trivial⟩) AM func24 (by kernel_rfl) (by decide)).nice λ⟨⟨k,l,()⟩,()⟩ h=>by
 have h:(AY k&&decide (l.length<=140737488355328))=true:=h;rw[Bool.and_eq_true,decide_eq_true_eq] at h;show uw _=some (Bh (k,l,()),());rw[pn,po];exact ux k l h.1 h.2 l.length 0 AE 0 (by omega) (by unfold AE;omega) (λ_=>rfl) (λh=>absurd h (by decide))
abbrev OA:List (Nat×List (Nat×Sh)):=[(4,[(1,(.obj [.sym,(.vec Aa 72)])),(2,(.obj [.sym,.any])),(19,(.one .sym)),(20,(.one .sym))])]
def YX (N:Nat) (k:L8) (l:List Ae) (a:L8) (m i:Int):Option (AA [AB]):=rH prog (AL [(22,PG)]) (AC OA) f23 [AB] N 0 [(1,.pointer (some ⟨11,0,none⟩)),(2,.pointer (some ⟨12,0,none⟩)),(19,sy (.int .i64 m)),(20,sy (.int .i64 i))] [.vec Aa l 72,.row [sy (.string (bs k)),dt 10] 68 false,.row [sy (.string (bs a)),Value.slice none 0 0] 68 false]
def mN (x:AA [AB]):Option (AA [AB]):=fO prog (AL [(22,PG)]) (AC OA) f23 [AB] [AB] x
theorem jy (x:AA [AB]):mN x=BV prog (AL [(22,PG)]) (AC OA) f23 [AB] [AB] AE x:=rfl
theorem jz (N:Nat) (k:L8) (l:List Ae):BV prog (AL [(22,PG)]) (AC OA) f23 [AB] [AB] N ((k,l,()),())=
 (gd [decide ((2*(0+(Bw l none (some (min (l.length:Int) 14))).length)+400)*32<=281474976710656),decide (0<=min (l.length:Int) 14),decide (min (l.length:Int) 14<=(l.length:Int))] (YX N (cut k 42) ([]++Bw l none (some (min (l.length:Int) 14))) [] (([]++Bw l none (some (min (l.length:Int) 14))).length:Int) 0)):=by kernel_rfl
theorem YY (N:Nat) (k:L8) (l:List Ae) (a:L8) (m i:Int):YX (N+1) k l a m i=
 (bif decide (i<m) then gd [decide (Ad .i64 (i+1)),decide (i.toNat<l.length),decide (0<=i),decide (i<(l.length:Int)),decide (i.toNat<l.length),decide (0<=i),decide (i<(l.length:Int))] (YX N k (l.set i.toNat (L4 (l.getD i.toNat (Aa).dflt))) a m (i+1)) else some ((k,l,()),())):=by kernel_rfl
theorem eP (k c:L8):∀(r a:List Ae) (N:Nat),a.length+r.length<=14->r.length<N->YX N k (a++r) c ((a++r).length:Int) (a.length:Int)=some ((k,a++r.map L4,()),())
 |[],a,N,d,hN=>by
  obtain⟨N,rfl⟩:∃m,N=m+1:=⟨N-1,by omega⟩
  rw[YY,List.append_nil,Av (by omega)];rw[List.map_nil,List.append_nil]
 |v::r,a,N,d,hN=>by
  obtain⟨N,rfl⟩:∃m,N=m+1:=⟨N-1,by omega⟩
  simp only[List.length_cons] at d hN;have b:a.length<(a++v::r).length:=by simp
  have e:(a++v::r).getD a.length (Aa).dflt=v:=Dg a r v _;have key:=eP k c r (a++[L4 v]) N (by simp;omega) (by omega);have f:a++[L4 v]++r=a++L4 v::r:=by simp
  have g:a++[L4 v]++r.map L4=a++(v::r).map L4:=by simp
  have h:(a++L4 v::r).length=(a++v::r).length:=by simp
  rw[f,g,h] at key;rw[List.length_append (bs:=[L4 v]),List.length_singleton] at key;simp only[Int.natCast_add,Int.natCast_one] at key;rw[YY,Au (by omega),show((a.length:Int)).toNat=a.length from rfl,e,Yh,AP (AH.2 ⟨by omega,by omega⟩),AP b,AP (by omega),AP (by omega),AP b,AP (by omega),AP (by omega),xG]
  exact key
theorem ACH:PC 23 QM:=(AN (sh:=AC OA) (AG (l:=[(22,PG)]) ⟨cc,trivial⟩) AM func23 (by kernel_rfl) (by decide)).nice λ⟨⟨k,l,()⟩,()⟩ h=>by
 have h:l.length<=140737488355328:=of_decide_eq_true h;have b:Bw l none (some (min (l.length:Int) 14))=l.take 14:=by
  show l.take (min (l.length:Int) 14).toNat=l.take 14;by_cases a:l.length<=14
  ·rw[Int.min_eq_left (by omega),List.take_of_length_le (by omega),List.take_of_length_le a]
  ·rw[Int.min_eq_right (by omega)];rfl
 have a:(l.take 14).length<=14:=by rw[List.length_take];omega
 show mN _=some (Gl (k,l,()),());rw[jy,jz,b,AP (by omega),AP (by omega),AP (by omega),xG,List.nil_append];exact eP (cut k 42) [] (l.take 14) [] AE (by simpa using a) (by unfold AE;omega)
end Go.Proofs.YtkgejlchafionaaGreatDoor
namespace Nice
abbrev IT:Ty:=.int .i64
abbrev FR:Ty:=.pair IT (.pair IT .unit)
abbrev Ab:Ty:=.pair IT (.pair FR .unit)
abbrev zA:Ty:=.pair IT (.pair IT (.pair IT (.pair IT (.pair IT .unit))))
abbrev A9:Ty:=.pair IT (.pair (.slice AB) (.pair (.slice Ab) (.pair zA .unit)))
abbrev AU:=Int×(Int×Int×Unit)×Unit
abbrev Dd:=Int×Int×Int×Int×Int×Unit
abbrev BB:=Int×List AD×List AU×Dd×Unit
abbrev j0:=Option (AA [IT])
def Ai (n:Int):Int:=bif decide (n<4294967296) then 0 else bif decide (n>=25769803776) then 0 else bif n.tmod 4294967296==0 then 0 else n.tdiv 4294967296
theorem Hv (n:Int):Ai n=0\/Ai n=1\/Ai n=2\/Ai n=3\/Ai n=4\/Ai n=5:=by
 unfold Ai;by_cases a:n<4294967296
 ·rw[decide_eq_true a];exact .inl rfl
 rw[decide_eq_false a];by_cases b:n>=25769803776
 ·rw[decide_eq_true b];exact .inl rfl
 rw[decide_eq_false b];cases n.tmod 4294967296==0
 ·right;have e:n.tdiv 4294967296=n/4294967296:=Int.tdiv_eq_ediv_of_nonneg (by omega);show n.tdiv 4294967296=1\/n.tdiv 4294967296=2\/n.tdiv 4294967296=3\/n.tdiv 4294967296=4\/n.tdiv 4294967296=5;rw[e];omega
 ·exact .inl rfl
def FD:PSpec:=⟨[IT],[IT],λ_=>true,λx=>(Ai x.1,())⟩
def Es (p:Nat->Bool):Nat->Nat->Bool
 |0,_=>true
 |r+1,i=>p i&&Es p r (i+1)
theorem IP {p:Nat->Bool}:∀{r i:Nat},Es p r i=true↔∀k,i<=k->k<i+r->p k=true
 |0,i=>⟨λ_ k b a=>absurd a (by omega),λ_=>rfl⟩
 |r+1,i=>by
  show(p i&&Es p r (i+1))=true↔_;rw[Bool.and_eq_true,IP];constructor
  ·rintro⟨b,a⟩ k c d;by_cases e:k=i
   ·subst e;exact b
   ·exact a k (by omega) (by omega)
  ·exact λh=>⟨h i (Nat.le_refl _) (by omega),λk c d=>h k (by omega) (by omega)⟩
def AQ (l:List AD) (i:Nat):AD:=l.getD i (AB).dflt
def Bi (e:AD):Ae:=e.2.1.getD (e.2.1.length-1) (Aa).dflt
def JB (q:Int) (l:List AD) (i:Nat):Bool:=Bh (AQ l i)&&(decide ((Bi (AQ l i)).1<=q)&&(Nat.beq i 0||Op.bytesLess (AQ l (i-1)).1 (AQ l i).1))
def Wk (x k:Int):Bool:=x==0||Ai x==k
def OB (L:Dd):Bool:=Wk L.1 1&&(Wk L.2.1 2&&(Wk L.2.2.1 3&&(Wk L.2.2.2.1 4&&Wk L.2.2.2.2.1 5)))
def FE (L:Dd) (h:Int):Int:=bif h==1 then L.1 else bif h==2 then L.2.1 else bif h==3 then L.2.2.1 else bif h==4 then L.2.2.2.1 else L.2.2.2.2.1
def Ay (m:List AU) (i:Nat):AU:=m.getD i (Ab).dflt
def aS (q:Int) (m:AU):Bool:=decide (0<=m.2.1.1)&&(decide (m.2.1.1<=13)&&(decide (0<=m.2.1.2.1)&&decide (m.2.1.2.1<=q)))
def J8 (q:Int) (L:Dd) (m:List AU) (i:Nat):Bool:= !(Ai (Ay m i).1==0)&&(decide (FE L (Ai (Ay m i).1)<=(Ay m i).1)&&((Nat.beq i 0||decide ((Ay m (i-1)).1<(Ay m i).1))&&aS q (Ay m i)))
def Bb (s:BB):Bool:=decide (0<=s.1)&&(decide (s.1<=1099511627776)&&(decide (s.2.1.length<=40)&&(decide (s.2.2.1.length<=100)&&(Es (JB s.1 s.2.1) s.2.1.length 0&&(OB s.2.2.2.1&&Es (J8 s.1 s.2.2.2.1 s.2.2.1) s.2.2.1.length 0)))))
def EF (s:BB):Bool:=s.2.1.all CN
def Ie:PSpec:=⟨[A9],[.bool],λx=>EF x.1,λx=>(Bb x.1,())⟩
theorem J9 {e:AD} (h:Bh e=true):1<=e.2.1.length/\e.2.1.length<=12:=by
 unfold Bh at h;simp only[Bool.and_eq_true,decide_eq_true_eq] at h;exact h.2.2
theorem zC {α:Type} {a:List Bool} {x:Option α} (h:∀p,p∈a->p=true):gd a x=x:=by
 induction a with
 |nil=>exact xG _
 |cons p r b=>
  rw[h p (List.mem_cons_self ..)];exact(Ag rfl).trans (b λp c=>h p (List.mem_cons_of_mem _ c))
end Nice
namespace Nice
def Cx {α:Type} (p:α->Bool):List α->Nat->Int
 |[],_=> -1
 |y::r,i=>if p y then(i:Int) else Cx p r (i+1)
def DF (l:List Ae) (a:Int):Int:=Cx (λy=>y.1==a) l 0
def KA (l:List AD) (key:L8):Int:=Cx (λy=>y.1==key) l 0
def eQ:PSpec:=⟨[.slice Aa,.clo 202 (.pair (.ref IT) .unit)],[IT],λx=>decide (x.1.length<=1000000),λx=>(DF x.1 x.2.1.1,())⟩
def eR:PSpec:=⟨[.slice AB,.clo 116 (.pair (.ref .str) .unit)],[IT],λx=>decide (x.1.length<=1000000),λx=>(KA x.1 x.2.1.1,())⟩
theorem Wl {α β : Type} [Inhabited β] (p : β → Bool) (q : α → Bool) (d : β) : ∀ (l : List α) (a : List β) (i : Nat), a.length = l.length → (∀ j (h : j < l.length), p a[j]! = q l[j]) → Lib.idxByFrom (fun _ y => p y) d a i = Cx q l i
  | [], [], _, _, _ => rfl
  | [], _ :: _, _, h, _ => by simp at h
  | _ :: _, [], _, h, _ => by simp at h
  | x :: l, z :: a, i, h, b => by
    have e : p z = q x := b 0 (by simp)
    show (if p z = true then (i : Int) else Lib.idxByFrom _ d a (i + 1)) = if q x = true then (i : Int) else Cx q l (i + 1)
    have f : ∀ j (c : j < l.length), p a[j]! = q l[j] := fun j c => by
      have := b (j + 1) (by simpa using c)
      rw [List.getElem_cons_succ] at this
      rw [← this]; simp
    rw [e, Wl p q d l a (i + 1) (by simpa using h) f]
end Nice
namespace Go.Proofs.YtkgejlchafionaaGreatDoor
open Tryz
open Nice Go.RowKit
theorem YZ {fz:Nat->Option (Array Value)} {w:World} (g:Bs fz w) {f:Nat} {t:Ty} {x:t.Den} {v:Value} (i:t.sz=1) (h:mT fz (.clo f (.pair (.ref t) .unit)) (x,()) v):
  ∃(b o:Nat) (u:Value),v=.func (.func f) #[] #[.pointer (some ⟨b,o,none⟩)]/\b<w.heap.size/\w.cell? ⟨b,o,none⟩=some u/\Bj fz t x [u]:=by
 rcases h with⟨h, -⟩|⟨-,p,j,c1,c2,rfl,⟨b,o,a,rfl,k,l,c⟩,m⟩
 ·cases h
 obtain rfl:c2=[]:=m;obtain⟨q,fr,d⟩:=g b a k;rw[i] at l c;have e:o<a.size:=by omega
 have n:(a.toList.drop o).take 1=[a[o]]:=by
  rw[List.drop_eq_getElem_cons (by simpa using e),List.take_succ_cons,List.take_zero];simp
 rw[n] at c;refine⟨b,o,a[o],?_,(Array.getElem?_eq_some_iff.1 d).1,?_,c⟩
 ·have:=List.cons.inj j;simpa using this.1
 ·simp only[World.cell?,d,Option.isSome_none,Bool.false_eq_true,if_false];exact Array.getElem?_eq_getElem e
theorem OD {fz:Nat->Option (Array Value)} {w:World} (f:Bs fz w) {t:Ty} {d:List t.Den} {v:Value} (h:mT fz (.slice t) d v):
  ((∃q c,v=.slice q 0 c)/\d=[])\/∃(b o c:Nat) (a:Array Value),v=.slice (some ⟨b,o,none⟩) d.length c/\b<w.heap.size/\o+d.length*t.sz<=a.size/\(∀i x,d[i]?=some x->Bj fz t x ((a.toList.drop (o+i*t.sz)).take t.sz))/\∀k u,a[k]?=some u->w.cell? ⟨b,k,none⟩=some u:=by
 rcases h with⟨h, -⟩|⟨-,sv,g,h⟩
 ·cases h
 obtain rfl:v=sv:=(List.cons.inj g).1;rcases h with⟨⟨q,c,rfl⟩,rfl⟩|⟨b,o,c,a,rfl,j,l, -,m⟩
 ·exact .inl ⟨⟨q,c,rfl⟩,rfl⟩
 ·obtain⟨p,fr,e⟩:=f b a j;refine .inr ⟨b,o,c,a,rfl,(Array.getElem?_eq_some_iff.1 e).1,l,m,λk u n=> ?_⟩;simp only[World.cell?,e,Option.isSome_none,Bool.false_eq_true,if_false];exact n
theorem Ig {a:Array Value} {p n i:Nat} {u:Value} (h:((a.toList.drop p).take n)[i]?=some u):a[p+i]?=some u:=by
 rw[List.getElem?_take] at h
 split at h
 ·rw[List.getElem?_drop,Array.getElem?_toList] at h;exact h
 ·cases h
open Go.Shelf in
theorem Wm (a:Option Addr) (c:Nat) (fv:Value) (w:World):Calls prog 201 #[.slice a 0 c,fv] w λe w'=>e=.returned (.int .i64 (-1))/\w'=w:=by
 have mixed:=Tryz.laysIdxV.mixed
 go_enter func201,ntmps201
 go_wp2
 go_loopg [5,8] 0 (λ_ _ b wr=>b=.int .i64 0/\wr=w)
 case atStart=>exact⟨rfl,rfl⟩
 case round=>
  obtain⟨rfl,rfl⟩:=hrel
  go_wp2
  go_ret
  exact⟨rfl,rfl⟩
open Go.Shelf in
theorem Wn (a:Option Addr) (c:Nat) (fv:Value) (w:World):Calls prog 115 #[.slice a 0 c,fv] w λe w'=>e=.returned (.int .i64 (-1))/\w'=w:=by
 have mixed:=Tryz.laysIdxE.mixed
 go_enter func115,ntmps115
 go_wp2
 go_loopg [5,8] 0 (λ_ _ b wr=>b=.int .i64 0/\wr=w)
 case atStart=>exact⟨rfl,rfl⟩
 case round=>
  obtain⟨rfl,rfl⟩:=hrel
  go_wp2
  go_ret
  exact⟨rfl,rfl⟩
theorem eS {f:FuncId} {S:PSpec} (h:∀(fz:Nat->Option (Array Value)) (w:World) (args:Array Value) (x:AA S.ts),Bs fz w->I6 FP w->Bc fz S.ts x args.toList->S.pre x=true->
  Calls prog f args w λe w'=>∃vs,e=.returned (De vs)/\Bc fz S.rs (S.g x) vs/\Bx w w'):PC f S:=by
 intro fz w args x a d l m;refine(h fz w args x a d l m).mono ?_;rintro e w' ⟨vs,rfl,n,k⟩;have i:∀b c,fz b=some c->b<w.heap.size:=λb c j=>by
  obtain⟨e,fr,h⟩:=a b c j;exact(Array.getElem?_eq_some_iff.1 h).1
 exact⟨vs,fz,rfl,λ_ _ h=>h,a.keep λb c j=>k.2.2.2 b (i b c j),λ_ _ h=>.inl h,n,k⟩
theorem QN (w:World):Bx w w:=⟨Nat.le_refl _,rfl,rfl,λ_ _=>rfl⟩
theorem R4 {fz:Nat->Option (Array Value)} (n:Int):Bc fz [IT] (n,()) [.int .i64 n]:=⟨_,_,rfl,.inr ⟨rfl,rfl⟩,rfl⟩
open Go.Shelf in
theorem pq : PC 201 eQ := eS fun fz w args x f D m E => by
  obtain ⟨l, ⟨a, ⟨⟩⟩, ⟨⟩⟩ := x
  have S : l.length ≤ 1000000 := of_decide_eq_true E
  obtain ⟨F, T, k, G, n⟩ := m
  obtain ⟨v2, H, rfl, I, p⟩ := n
  obtain rfl : H = [] := p
  obtain ⟨b, o, u, rfl, J, K, L⟩ := YZ f (t := IT) rfl I
  obtain rfl : u = .int .i64 a := (List.cons.inj L).1
  have M : args = #[F, .func (.func 202) #[] #[.pointer (some ⟨b, o, none⟩)]] := Array.toList_inj.1 k
  subst M
  rcases OD f G with ⟨⟨q, c, rfl⟩, rfl⟩ | ⟨B, O, C, r, rfl, N, P, s, d⟩
  · refine (Wm q c _ w).mono ?_
    rintro e w' ⟨rfl, rfl⟩
    exact ⟨[_], rfl, R4 _, QN _⟩
  · have g := AnyQ.slices_IndexFunc Tryz.laysIdxV 3 isAgg72 sizeOf72 nX (fun _ => rfl) (fun x => x.1 == a) 202 #[.pointer (some ⟨b, o, none⟩)] (enters_of func202 (by kernel_rfl) rfl) B O l.length C
      (l.map fun v => (v.1, v.2.1, bs v.2.2.1)) w (Tryz.isVer a b o w J K) (by rw [List.length_map]; exact Nat.le_refl _) (by omega) N (fun j h i v z => by
        rw [List.length_map] at h
        have Q : (l.map fun v => (v.1, v.2.1, bs v.2.2.1))[j]! = ((l[j]).1, (l[j]).2.1, bs (l[j]).2.2.1) := by
          rw [getElem!_pos _ _ (by rw [List.length_map]; exact h)]; simp
        rw [Q] at z
        have m := s j l[j] (List.getElem?_eq_getElem h)
        have R : (r.toList.drop (O + j * 3)).take 3 = nX ((l[j]).1, (l[j]).2.1, bs (l[j]).2.2.1) := by
          obtain ⟨c1, c2, k, f1, U, V, rfl, f2, W, X, rfl, f3, f4⟩ := m
          rw [show Aa.sz = 3 from rfl] at k
          rw [k, f1, f2, f3, f4]; rfl
        rw [← R] at z
        exact d _ _ (Ig z))
    refine g.mono ?_
    rintro e w' ⟨rfl, A⟩
    refine ⟨[_], rfl, ?_, E9 A⟩
    have : Lib.idxBy (fun _ (y : Int × Bool × ByteArray) => y.1 == a) ((l.map fun v => (v.1, v.2.1, bs v.2.2.1)).take l.length) default = DF l a := by
      rw [List.take_of_length_le (by rw [List.length_map]; exact Nat.le_refl _)]
      refine Wl (fun (y : Int × Bool × ByteArray) => y.1 == a) (fun y => y.1 == a) default l _ 0 (List.length_map ..) fun j h => ?_
      rw [getElem!_pos _ _ (by rw [List.length_map]; exact h)]; simp
    rw [this]
    exact R4 _
open Go.Shelf in
theorem pr : PC 115 eR := eS fun fz w args x h E n F => by
  obtain ⟨l, ⟨key, ⟨⟩⟩, ⟨⟩⟩ := x
  have S : l.length ≤ 1000000 := of_decide_eq_true F
  obtain ⟨G, T, m, H, p⟩ := n
  obtain ⟨v2, I, rfl, J, r⟩ := p
  obtain rfl : I = [] := r
  obtain ⟨b, o, u, rfl, K, L, M⟩ := YZ h (t := .str) rfl J
  obtain rfl : u = .string (bs key) := (List.cons.inj M).1
  have N : args = #[G, .func (.func 116) #[] #[.pointer (some ⟨b, o, none⟩)]] := Array.toList_inj.1 m
  subst N
  rcases OD h H with ⟨⟨q, c, rfl⟩, rfl⟩ | ⟨B, O, C, a, rfl, P, Q, s, g⟩
  · refine (Wn q c _ w).mono ?_
    rintro e w' ⟨rfl, rfl⟩
    exact ⟨[_], rfl, R4 _, QN _⟩
  · have D : ∀ j (d : j < l.length), ((List.range l.length).map fun j => (bs (l.getD j (AB).dflt).1, ((a.toList.drop (O + j * 2)).take 2).getD 1 undef))[j]! = (bs (l[j]).1, ((a.toList.drop (O + j * 2)).take 2).getD 1 undef) := fun j d => by
      rw [getElem!_pos _ _ (by rw [List.length_map, List.length_range]; exact d)]
      simp only [List.getElem_map, List.getElem_range]
      rw [List.getD_eq_getElem?_getD, List.getElem?_eq_getElem d]; rfl
    have f : ((List.range l.length).map fun j => (bs (l.getD j (AB).dflt).1, ((a.toList.drop (O + j * 2)).take 2).getD 1 undef)).length = l.length := by rw [List.length_map, List.length_range]
    have k := AnyQ.slices_IndexFunc Tryz.laysIdxE 2 isAgg68 sizeOf68 nY (fun _ => rfl) (fun x => x.1.toList == (bs key).toList) 116 #[.pointer (some ⟨b, o, none⟩)] (enters_of func116 (by kernel_rfl) rfl) B O l.length C
      ((List.range l.length).map fun j => (bs (l.getD j (AB).dflt).1, ((a.toList.drop (O + j * 2)).take 2).getD 1 undef)) w (Tryz.isKey (bs key) b o w K L) (by rw [f]; exact Nat.le_refl _) (by omega) P (fun j d i v z => by
        rw [f] at d
        rw [D j d] at z
        have n := s j l[j] (List.getElem?_eq_getElem d)
        have R : (a.toList.drop (O + j * 2)).take 2 = nY (bs (l[j]).1, ((a.toList.drop (O + j * 2)).take 2).getD 1 undef) := by
          obtain ⟨c1, c2, m, f1, U, V, rfl, ⟨sv, f2, -⟩, f3⟩ := n
          rw [show AB.sz = 2 from rfl] at m
          rw [m, f1, f2, f3]; rfl
        rw [← R] at z
        exact g _ _ (Ig z))
    refine k.mono ?_
    rintro e w' ⟨rfl, A⟩
    refine ⟨[_], rfl, ?_, E9 A⟩
    have : Lib.idxBy (fun _ (y : ByteArray × Value) => y.1.toList == (bs key).toList) (((List.range l.length).map fun j => (bs (l.getD j (AB).dflt).1, ((a.toList.drop (O + j * 2)).take 2).getD 1 undef)).take l.length) default = KA l key := by
      rw [List.take_of_length_le (by rw [f]; exact Nat.le_refl _)]
      refine Wl (fun (y : ByteArray × Value) => y.1.toList == (bs key).toList) (fun y => y.1 == key) default l _ 0 f fun j d => ?_
      rw [D j d]
      show ((bs (l[j]).1).toList == (bs key).toList) = _
      rw [El, El, cK, cK]
    rw [this]
    exact R4 _
end Go.Proofs.YtkgejlchafionaaGreatDoor
namespace Nice
def Hw:PSpec:=⟨[.int .i64,.int .i64],[.str],λx=>BR x.1&&x.2.1==10,λx=>(DV x.1,())⟩
def Hx:OSpec:=⟨false,0,.unit,0,[.d (.slice .str)],[.vec .str 9],λ_ y=>decide (y.1.length<=8796093022208),λx y=>(x,y.1,())⟩
end Nice
namespace Go.Proofs.YtkgejlchafionaaGreatDoor
open Tryz
open Nice Go.RowKit
theorem eT:PC 48 Hw:=Nk λfz w args x a g h=>by
 obtain⟨n,b,⟨⟩⟩:=x;have f:(BR n&&b==10)=true:=h;rw[Bool.and_eq_true,beq_iff_eq] at f;obtain⟨i,rfl⟩:=f;obtain⟨j,l⟩:=J4.1 i;obtain⟨_,_,m,g1,c⟩:=CU rfl g;obtain⟨_,o,rfl,p,d⟩:=CU rfl c;obtain rfl:o=[]:=d;cases g1;cases p;have q:args=#[.int .i64 n,.int .i64 10]:=Array.toList_inj.1 m
 subst q;refine(Tryz.strconv_FormatInt_10 n j l w (ABX a)).mono ?_;rintro e w' ⟨rfl,k,os,rfl⟩;exact⟨[.string (bs (Lib.itoa n))],rfl,⟨_,_,rfl,.inr ⟨rfl,rfl⟩,rfl⟩,K4 _ _ _⟩
theorem uy:(Tryz.prog.info? 9).map (·.size)=some 1:=by kernel_rfl
theorem ACI {w:World} {B n:Nat} {v:Value} {l:List (L8)} (q:n=l.length) (h:w.ownsRow B 9 1 v n (l.map λs=>Value.string (bs s))):∃r:Reg,r.sv=v/\(∀b,b∈(bif r.own then [r.blk] else []:List Nat)->B<=b)/\Am prog (λ_=>r) 0 w (.vec .str l 9)/\∀b,r.fz b=none:=by
 subst q;obtain⟨E,h⟩:=h;rcases h with⟨rfl,t⟩|⟨g,cap,a,rfl,F,u,e,_,f,j⟩
 ·have:l=[]:=List.eq_nil_of_length_eq_zero t;subst this;refine⟨⟨0,0,0,1,false,λ_=>none,.slice none 0 0⟩,rfl,λb d=>(by cases d),?_,λ_=>rfl⟩;exact⟨rfl,λb c d=>(nomatch d),.inl ⟨rfl,rfl,none,rfl⟩⟩
 ·refine⟨⟨g,0,a.size,1,true,λ_=>none,.slice (some ⟨g,0,none⟩) l.length cap⟩,rfl,λb d=> ?_,?_,λ_=>rfl⟩
  ·have:b=g:=by simpa using d
   omega
  refine⟨rfl,?_,.inr ⟨rfl,?_,cap,a,(0,0),rfl,e,u,Nat.zero_add _,?_,λi m=> ?_,?_,?_⟩⟩
  ·intro b c d;cases d
  ·rintro⟨c,e⟩;cases e
  ·show cap*1<=a.size;omega
  ·have:=uy;rw[m] at this;have:i.size=1:=Option.some.inj this;rw[this];exact⟨rfl,rfl,Nat.mod_one _⟩
  ·intro o _ y;have:=y.2;omega
  ·show Co (λ_=>none) .str l (a.toList.drop 0);rw[List.drop_zero];intro i x p;have m:i<l.length:=(List.getElem?_eq_some_iff.1 p).1;have z:a.toList.length=cap:=by rw[Array.length_toList,f,Nat.mul_one]
   refine⟨by show i*1+1<=_;omega,?_⟩;have A:a.toList[i]?=some (.string (bs x)):=by
    have k:(a.toList.take (l.length*1))[i]?=some (.string (bs x)):=by
     rw[j,List.getElem?_map,p];rfl
    rw[List.getElem?_take] at k;rw[if_pos (by omega)] at k;exact k
   obtain⟨C,D⟩:=List.getElem?_eq_some_iff.1 A;show(a.toList.drop (i*1)).take 1=[Value.string (bs x)];rw[Nat.mul_one,List.drop_eq_getElem_cons C,D];rfl
theorem kA:OC 203 Hx:=by
 intro fz w r t I args x y B L hN M N _ C D u;obtain⟨l,⟨⟩⟩:=y;have T:l.length<=8796093022208:=of_decide_eq_true u;have O:t=[]:=C rfl;obtain⟨v,J,P,U,rfl,rfl,z,k,E⟩:=D;subst k E O;have z:P=[]/\Bj fz (.slice .str) l [v]:=by
  rcases z with⟨h,_⟩|⟨_,h⟩
  ·cases h
  ·exact h
 obtain⟨rfl,sv,F,z⟩:=z;cases F;show Calls prog 203 #[v] w _;have fin:∀(v':Value) (w':World),w'.ownsRow w.heap.size 9 1 v' l.length (l.map λs=>Value.string (bs s))->Below w.heap.size w w'->jB prog Hx fz w r ([]++([]++[])) (x,l,()) (.returned v') w':=λv' w' n d=>by
  obtain⟨i,rfl,K,Q,R⟩:=ACI rfl n;have f:∀b c,fz b=some c->b<w.heap.size:=λb c d=>by
   obtain⟨e,fr,h⟩:=B b c d;exact(Array.getElem?_eq_some_iff.1 h).1
  refine⟨[i.sv],fz,[],(bif i.own then [i.blk] else []),rfl,λ_ _ h=>h,B.keep λb c h=>d.block b (f b c h),λ_ _ h=>.inl h,?_,λb d=> ?_,λb d=>.inr (K b (by simpa using d)),λh=>(by cases h),λ_=>rfl,⟨i.sv,[],_,[],rfl,(List.append_nil _).symm,.inr ⟨rfl,i,rfl,rfl,Q,λb c h=>by rw[R b] at h;cases h⟩,rfl,rfl⟩,d.size,d.os,d.output,λb f _=>d.block b f⟩
  ·show([]++([]++(bif i.own then [i.blk] else []))).Nodup;cases i.own
   ·exact List.nodup_nil
   ·simp
  ·have d:b∈(bif i.own then [i.blk] else []:List Nat):=by simpa[FF,Hx] using d
   have:=K b d;cases G:fz b with
   |none=>rfl
   |some c=>have:=f b c G;omega
 rcases z with⟨⟨q,c,rfl⟩,rfl⟩|⟨b,o,c,g,rfl,d,A,V,S⟩
 ·cases q with
  |none=>
   refine(Tryz.slices_Clone_string_nil 0 c w).mono ?_;rintro e w' ⟨rfl,rfl⟩;exact fin _ _ ⟨rfl,.inl ⟨rfl,rfl⟩⟩ (Below.refl _ _)
  |some a=>
   refine(Tryz.slices_Clone_string_zero a c w).mono ?_;rintro e w' ⟨v',rfl,n,_,d⟩;exact fin _ _ n d
 ·obtain⟨e,fr,m⟩:=B b g d;refine(Tryz.slices_Clone_string b o l.length c (l.map bs) w (by rw[List.length_map];exact Nat.le_refl _) (by omega) (λj H=> ?_)).mono ?_
  ·rw[List.length_map] at H;have p:=S j l[j] (List.getElem?_eq_getElem H);have p:(g.toList.drop (o+j*1)).take 1=[Value.string (bs l[j])]:=p;have A:o+l.length*1<=g.size:=A;have f:o+j<g.toList.length:=by rw[Array.length_toList];omega
   rw[Nat.mul_one,List.drop_eq_getElem_cons f] at p;have p:g.toList[o+j]=Value.string (bs l[j]):=(List.cons.inj p).1;simp only[World.cell?,m,Option.isSome_none,Bool.false_eq_true,if_false];rw[List.getD_eq_getElem?_getD,List.getElem?_map,List.getElem?_eq_getElem H];show g[o+j]?=some (.string (bs l[j]))
   rw[<-p,<-Array.getElem?_toList,List.getElem?_eq_getElem f]
  ·rintro e w' ⟨v',rfl,n,_,d⟩;have:((l.map bs).take l.length).map Value.string=l.map λs=>Value.string (bs s):=by
    rw[List.take_of_length_le (by rw[List.length_map];exact Nat.le_refl _),List.map_map];rfl
   rw[this] at n;exact fin _ _ n d
end Go.Proofs.YtkgejlchafionaaGreatDoor
namespace Nice
abbrev Gz:Ty:=.pair (.slice .str) (.pair (.slice AB) (.pair .bool (.pair .str .unit)))
abbrev O2:Type:=List (L8)×List AD×Bool×L8×Unit
def Et (l:List AD):Bool:=decide (l.length<=1099511627776)&&l.all CN
def OE (l:List AD):Bool:=l.any λe=> !Bh e
def QO (l:List AD):Int:=bif OE l then((l.takeWhile Bh).length:Int) else -1
def QQ:PSpec:=⟨[AB],[.bool],λx=>CN x.1,λx=>(!Bh x.1,())⟩
def eU:PSpec:=⟨[.slice AB,.fn 165],[.int .i64],λx=>Et x.1,λx=>(QO x.1,())⟩
def OG:PSpec:=⟨[.slice AB,.fn 165],[.bool],λx=>Et x.1,λx=>(OE x.1,())⟩
def B7 (n:List (L8)) (l:List AD):List (L8):=n++l.map (·.1)
def UA (s:O2):Bool:=decide (s.1.length<=1099511627776)&&decide (s.2.1.length<=1099511627776)
def OH:PSpec:=⟨[Gz],[.slice .str],λx=>UA x.1,λx=>(B7 x.1.1 x.1.2.1,())⟩
def Fp:L8->List (L8)->Bool
 |_,[]=>true
 |last,k::r=>isKey k&&(Op.bytesLess last k&&Fp k r)
theorem DG (a k:L8) (r:List (L8)):Fp a (k::r)=(isKey k&&(Op.bytesLess a k&&Fp k r)):=rfl
def ET (t:L8):List (L8)->L8
 |[]=>t
 |k::r=>ET k r
def QR:L8->List AD->Bool
 |_,[]=>true
 |last,e::r=>Bh e&&(Op.bytesLess last e.1&&QR e.1 r)
theorem OI (a:L8) (e:AD) (r:List AD):QR a (e::r)=(Bh e&&(Op.bytesLess a e.1&&QR e.1 r)):=rfl
def Gm (s:O2):Bool:= !(decide (0<s.1.length)&&decide (0<s.2.1.length))&&(Fp [] (B7 s.1 s.2.1)&&(s.2.1.all Bh&&(decide ((B7 s.1 s.2.1).length<=20)&&(bif s.2.2.1 then decide (0<(B7 s.1 s.2.1).length)&&s.2.2.2.1==ET [] (B7 s.1 s.2.1) else s.2.2.2.1==[]))))
def Eu (s:O2):Bool:=decide (s.1.length<=1099511627776)&&(s.1.all AY&&Et s.2.1)
def Hy:PSpec:=⟨[Gz],[.bool],λx=>Eu x.1,λx=>(Gm x.1,())⟩
theorem OJ:∀(a b:L8),Op.bytesLess a b= !(Op.bytesLess b a||b==a)
 |[],[]=>by simp[Op.bytesLess]
 |[],_::_=>by simp[Op.bytesLess]
 |_::_,[]=>by simp[Op.bytesLess]
 |x::a,y::b=>by
  have f:=OJ a b;simp only[Op.bytesLess];rcases Nat.lt_trichotomy x.toNat y.toNat with h|h|h
  ·have c:x<y:=UInt8.lt_iff_toNat_lt.2 h;have d:¬y<x:=λh=>by have:=UInt8.lt_iff_toNat_lt.1 h;omega
   have e:(y==x)=false:=by
    rw[beq_eq_false_iff_ne];rintro rfl;exact absurd h (Nat.lt_irrefl _)
   simp[c,d,e,List.cons_beq_cons]
  ·have c:x=y:=UInt8.toNat_inj.1 h;subst c;simp[f,List.cons_beq_cons]
  ·have c:y<x:=UInt8.lt_iff_toNat_lt.2 h;have d:¬x<y:=λh=>by have:=UInt8.lt_iff_toNat_lt.1 h;omega
   have e:x≠y:=by rintro rfl;exact absurd h (Nat.lt_irrefl _)
   simp[c,d,e]
theorem eV {k:L8} (h:isKey k=true):Op.bytesLess [] k=true:=by
 cases k with
 |nil=>exact absurd h (by decide)
 |cons a b=>simp[Op.bytesLess]
theorem Eb {k:L8} (h:isKey k=true):k.length<=40:=by
 unfold isKey at h;rw[Bool.and_eq_true,Bool.and_eq_true,decide_eq_true_eq,decide_eq_true_eq] at h;exact h.2.2
theorem eW {e:AD} (h:Bh e=true):isKey e.1=true:=by
 unfold Bh at h;rw[Bool.and_eq_true,Bool.and_eq_true] at h;exact h.2.1
theorem QS:∀(n m:List (L8)) (t:L8),Fp t (n++m)=(Fp t n&&Fp (ET t n) m)
 |[],_,_=>by rw[List.nil_append];exact(Bool.true_and _).symm
 |k::n,m,t=>by rw[List.cons_append,DG,DG,QS n m k,Bool.and_assoc,Bool.and_assoc];rfl
theorem QT:∀(n m:List (L8)) (t:L8),ET t (n++m)=ET (ET t n) m
 |[],_,_=>rfl
 |k::n,m,_=>QT n m k
theorem UB:∀(l:List AD) (t:L8),QR t l=(Fp t (l.map (·.1))&&l.all Bh)
 |[],_=>rfl
 |e::l,t=>by
  rw[OI,List.map_cons,DG,UB l e.1,List.all_cons];cases h:Bh e
  ·simp
  ·rw[eW h];cases Op.bytesLess t e.1
   ·rfl
   ·cases Fp e.1 (l.map (·.1))<;>rfl
theorem OL:∀(k:List (L8)) (t:L8),0<k.length->ET t k=k.getD (k.length-1) []
 |[],_,h=>absurd h (by decide)
 |[a],_,_=>rfl
 |a::b::k,t,_=>by
  have:=OL (b::k) a (by simp);show ET a (b::k)=_;rw[this];rfl
def Wo (l:List AD) (b i:Int) (a:Option (AA [.int .i64])):Option (AA [.int .i64]):=
 bif decide (i<b) then(bif !Bh ((l.getD i.toNat (AB).dflt).1,(l.getD i.toNat (AB).dflt).2.1,()) then gd [CN ((l.getD i.toNat (AB).dflt).1,(l.getD i.toNat (AB).dflt).2.1,()),decide (i.toNat<l.length),decide (0<=i),decide (i<(l.length:Int))] (some (i,()))
  else gd [decide (Ad .i64 (i+1)),CN ((l.getD i.toNat (AB).dflt).1,(l.getD i.toNat (AB).dflt).2.1,()),decide (i.toNat<l.length),decide (0<=i),decide (i<(l.length:Int))] a)
 else some (-1,())
end Nice
namespace Go.Proofs.YtkgejlchafionaaGreatDoor
open Tryz
open Nice Go.RowKit
def mO (x:AA [AB]):BO:=fO prog (AL [(99,GU)]) (AC []) f165 [AB] [.bool] x
theorem uz (k:L8) (l:List Ae):mO ((k,l,()),())=(bif Bh (k,l,()) then gd [CN (k,l,())] (bO false) else gd [CN (k,l,())] (bO true)):=by kernel_rfl
theorem pw:PC 165 QQ:=(AN (AG (l:=[(99,GU)]) ⟨ABb,trivial⟩) AM func165 (by kernel_rfl) (by decide)).nice λ⟨⟨k,l,()⟩,()⟩ h=>by
 have h:CN (k,l,())=true:=h;show mO _=some (!Bh (k,l,()),());rw[uz,Ag h,Ag h,xG,xG];cases Bh (k,l,())<;>rfl
abbrev OM:List (Nat×List (Nat×Sh)):=[(2,[(0,(.one (.dat AB))),(1,(.one .any)),(4,(.one .sym)),(7,(.one .sym)),(8,(.one .sym))])]
def Ya (n:Nat) (l:List AD) (a b i:Int):Option (AA [.int .i64]):=rH prog (AL [(165,QQ)]) (AC OM) f115 [.int .i64] n 0 [(0,dt 10),(1,Value.func (Fn.func 165) #[] #[]),(4,sy (.int .i64 a)),(7,sy (.int .i64 b)),(8,sy (.int .i64 i))] [.dat AB l]
def mP (x:AA [.slice AB,.fn 165]):Option (AA [.int .i64]):=fO prog (AL [(165,QQ)]) (AC OM) f115 [.slice AB,.fn 165] [.int .i64] x
theorem kB (x:AA [.slice AB,.fn 165]):mP x=BV prog (AL [(165,QQ)]) (AC OM) f115 [.slice AB,.fn 165] [.int .i64] AE x:=rfl
theorem kC (N:Nat) (l:List AD):BV prog (AL [(165,QQ)]) (AC OM) f115 [.slice AB,.fn 165] [.int .i64] N (l,(),())=Ya N l 0 (l.length:Int) 0:=by kernel_rfl
theorem Yb (n:Nat) (l:List AD) (a b i:Int):Ya (n+1) l a b i=Wo l b i (Ya n l a b (i+1)):=by kernel_rfl
theorem px (l:List AD) (g:l.length<=1099511627776) (c:∀h,h∈l->CN h=true):∀(r i n:Nat),l.length=i+r->r<n->Ya n l 0 (l.length:Int) (i:Int)=some ((bif (l.drop i).any (λh=> !Bh h) then(i:Int)+((l.drop i).takeWhile Bh).length else -1),()):=by
 intro r
 induction r with
 |zero=>
  intro i n d e;obtain⟨n,rfl⟩:∃k,n=k+1:=⟨n-1,by omega⟩
  rw[Yb];unfold Wo;rw[Av (by omega),List.drop_eq_nil_of_le (by omega)];rfl
 |succ r f=>
  intro i n d e;obtain⟨n,rfl⟩:∃k,n=k+1:=⟨n-1,by omega⟩
  have a:i<l.length:=by omega
  have hd:l.drop i=l.getD i (AB).dflt::l.drop (i+1):=by
   rw[List.drop_eq_getElem_cons a,List.getD_eq_getElem?_getD,List.getElem?_eq_getElem a];rfl
  have b:CN (l.getD i (AB).dflt)=true:=c _ (by
   rw[List.getD_eq_getElem?_getD,List.getElem?_eq_getElem a];exact List.getElem_mem a)
  rw[Yb];unfold Wo;rw[Au (by omega),show(i:Int).toNat=i from rfl,hd,List.any_cons,List.takeWhile_cons,show((l.getD i (AB).dflt).1,(l.getD i (AB).dflt).2.1,())=l.getD i (AB).dflt from rfl];cases j:Bh (l.getD i (AB).dflt)
  ·rw[Bool.not_false,xT,Ag b,AP (by omega),AP (by omega),AP (by omega),xG,Bool.true_or,xT];simp
  ·have:=f (i+1) n (by omega) (by omega);simp only[Int.natCast_add,Int.natCast_one] at this;rw[Bool.not_true,xF,AP (AH.2 ⟨by omega,by omega⟩),Ag b,AP (by omega),AP (by omega),AP (by omega),xG,this,Bool.false_or];cases(l.drop (i+1)).any λh=> !Bh h
   ·rfl
   ·simp only[xT,if_true,List.length_cons,Int.natCast_add,Int.natCast_one];congr 2;omega
theorem K5 {l:List AD}:Et l=true↔l.length<=1099511627776/\∀h,h∈l->CN h=true:=by
 unfold Et;rw[Bool.and_eq_true,decide_eq_true_eq,List.all_eq_true]
theorem py:PC 115 eU:=(AN (sh:=AC OM) (AG (l:=[(165,QQ)]) ⟨pw,trivial⟩) AM func115 (by kernel_rfl) (by decide)).nice λ⟨l,(),()⟩ h=>by
 obtain⟨a,b⟩:=K5.1 h;have a:l.length<=1099511627776:=a;show mP _=some (QO l,());rw[kB,kC];refine Eq.trans (px l a b l.length 0 AE (by omega) (by unfold AE;omega)) ?_;unfold QO OE;rw[List.drop_zero];cases l.any λh=> !Bh h
 ·rfl
 ·simp
def mQ (x:AA [.slice AB,.fn 165]):BO:=fO prog (AL [(115,eU)]) (AC []) f164 [.slice AB,.fn 165] [.bool] x
theorem u0 (l:List AD):mQ (l,(),())=(bif decide (QO l>=0) then gd [Et l] (bO true) else gd [Et l] (bO false)):=by kernel_rfl
theorem eX (l:List AD):decide (QO l>=0)=OE l:=by
 unfold QO;cases OE l
 ·rfl
 ·exact decide_eq_true (by show(0:Int)<=_;rw[xT];omega)
theorem pz:PC 164 OG:=(AN (AG (l:=[(115,eU)]) ⟨py,trivial⟩) AM func164 (by kernel_rfl) (by decide)).nice λ⟨l,(),()⟩ h=>by
 have h:Et l=true:=h;show mQ _=some (OE l,());rw[u0,eX,Ag h,Ag h,xG,xG];cases OE l<;>rfl
abbrev ON:List (Nat×List (Nat×Sh)):=[(3,[(2,(.one .any)),(3,(.one (.vec .str 9))),(10,(.one (.dat AB))),(11,(.one .sym)),(12,(.one .sym))])]
def Yc (N:Nat) (o:List (L8)) (l:List AD) (m i:Int):Option (AA [.slice .str]):=rH prog (Dc [] [(203,Hx)]) (AC ON) f163 [.slice .str] N 0 [(2,Value.slice none 0 0),(3,dt 10),(10,dt 11),(11,sy (.int .i64 m)),(12,sy (.int .i64 i))] [.vec .str o 9,.dat AB l]
def mR (x:AA [Gz]):Option (AA [.slice .str]):=fO prog (Dc [] [(203,Hx)]) (AC ON) f163 [Gz] [.slice .str] x
theorem kD (x:AA [Gz]):mR x=BV prog (Dc [] [(203,Hx)]) (AC ON) f163 [Gz] [.slice .str] AE x:=rfl
theorem kE (N:Nat) (n:List (L8)) (l:List AD) (m:Bool) (x:L8):BV prog (Dc [] [(203,Hx)]) (AC ON) f163 [Gz] [.slice .str] N ((n,l,m,x,()),())=
 gd [decide (n.length<=8796093022208)] (Yc N n l (l.length:Int) 0):=by kernel_rfl
theorem Yd (N:Nat) (o:List (L8)) (l:List AD) (m i:Int):Yc (N+1) o l m i=
 (bif decide (i<m) then gd [decide (Ad .i64 (i+1)),decide ((2*(o.length+[(l.getD i.toNat (AB).dflt).1].length)+400)*16<=281474976710656),decide (i.toNat<l.length),decide (0<=i),decide (i<(l.length:Int))] (Yc N (o++[(l.getD i.toNat (AB).dflt).1]) l m (i+1)) else some (o,())):=by kernel_rfl
theorem p0 (l:List AD) (e:l.length<=1099511627776):∀(r i N:Nat) (o:List (L8)),l.length=i+r->r<N->o.length<=1099511627776+i->Yc N o l (l.length:Int) (i:Int)=some (o++(l.drop i).map (·.1),()):=by
 intro r
 induction r with
 |zero=>
  intro i N o c hN _;obtain⟨N,rfl⟩:∃m,N=m+1:=⟨N-1,by omega⟩
  rw[Yd,Av (by omega),List.drop_eq_nil_of_le (by omega)];simp
 |succ r d=>
  intro i N o c hN f;obtain⟨N,rfl⟩:∃m,N=m+1:=⟨N-1,by omega⟩
  have b:i<l.length:=by omega
  have hd:l.drop i=l.getD i (AB).dflt::l.drop (i+1):=by
   rw[List.drop_eq_getElem_cons b,List.getD_eq_getElem?_getD,List.getElem?_eq_getElem b];rfl
  have a:([(l.getD i (AB).dflt).1]:List (L8)).length=1:=rfl;have this:=d (i+1) N (o++[(l.getD i (AB).dflt).1]) (by omega) (by omega) (by rw[List.length_append,a];omega);simp only[Int.natCast_add,Int.natCast_one] at this;rw[Yd,Au (by omega),show(i:Int).toNat=i from rfl,a,AP (AH.2 ⟨by omega,by omega⟩),AP (by omega),AP b,AP (by omega),AP (by omega),xG,this,hd,List.map_cons,List.append_assoc];rfl
theorem p5:PC 163 OH:=(AN (sh:=AC ON) (BN (l:=[]) (o:=[(203,Hx)]) trivial ⟨kA,trivial⟩) AM func163 (by kernel_rfl) (by decide)).nice λ⟨⟨n,l,m,x,()⟩,()⟩ h=>by
 have h:(decide (n.length<=1099511627776)&&decide (l.length<=1099511627776))=true:=h;rw[Bool.and_eq_true,decide_eq_true_eq,decide_eq_true_eq] at h;show mR _=some (B7 n l,());rw[kD,kE,AP (by omega),xG];exact p0 l h.2 l.length 0 AE n (by omega) (by unfold AE;omega) (by omega)
end Go.Proofs.YtkgejlchafionaaGreatDoor
namespace Nice
def OO (k:List (L8)) (m i:Int) (a b:BO):BO:=
 bif decide (i<m) then gd [decide (i.toNat<k.length),decide (0<=i),decide (i<(k.length:Int))] (bif isKey (k.getD i.toNat Ty.str.dflt) then
     (bif decide (i>0) then(bif !Op.bytesLess (k.getD (i-1).toNat Ty.str.dflt) (k.getD i.toNat Ty.str.dflt) then gd [decide ((i-1).toNat<k.length),decide (0<=i-1),decide (i-1<(k.length:Int)),decide (Ad .i64 (i-1)),AY (k.getD i.toNat Ty.str.dflt)] (bO false)
      else gd [decide (Ad .i64 (i+1)),decide ((i-1).toNat<k.length),decide (0<=i-1),decide (i-1<(k.length:Int)),decide (Ad .i64 (i-1)),AY (k.getD i.toNat Ty.str.dflt)] a)
     else gd [decide (Ad .i64 (i+1)),AY (k.getD i.toNat Ty.str.dflt)] a)
  else gd [AY (k.getD i.toNat Ty.str.dflt)] (bO false)) else b
abbrev gL (k:List (L8)):List Bool:=[decide (((k.length:Int)-1).toNat<k.length),decide (0<=(k.length:Int)-1),decide ((k.length:Int)-1<(k.length:Int)),decide (Ad .i64 ((k.length:Int)-1))]
def zD (l:List AD) (x:L8) (k:List (L8)):BO:=
 bif OE l then gd [Et l] (bif decide ((k.length:Int)>0) then gd (gL k) (bO false) else bO false)
 else gd [Et l] (bif decide ((k.length:Int)>0) then gd (gL k) (bif decide ((k.length:Int)<=20) then(bif x==k.getD ((k.length:Int)-1).toNat Ty.str.dflt then(bif decide ((k.length:Int)>0) then bO true else bO false) else bO false) else bO false)
  else(bif decide ((k.length:Int)<=20) then(bif x==[] then(bif decide ((k.length:Int)>0) then bO true else bO false) else bO false) else bO false))
def zE (l:List AD) (x:L8) (k:List (L8)):BO:=
 bif OE l then gd [Et l] (bO false) else gd [Et l] (bif decide ((k.length:Int)<=20) then(bif x==[] then bO true else bO false) else bO false)
def u4 (b:Bool) (l:List AD) (x:L8) (k:List (L8)):BO:=match b with
 |true=>zD l x k
 |false=>zE l x k
theorem u5 (b:Bool) {l:List AD} (x:L8) {k:List (L8)} (h:Et l=true) (g:k.length<=4398046511104):u4 b l x k=some (l.all Bh&&(decide (k.length<=20)&&(bif b then decide (0<k.length)&&x==ET [] k else x==[])),()):=by
 have d:OE l= !l.all Bh:=by
  unfold OE;rw[List.not_all_eq_any_not]
 cases b
 ·show zE l x k=_;unfold zE;rw[Ag h,Ag h,d];cases l.all Bh
  ·rfl
  ·by_cases a:k.length<=20
   ·rw[Au (show(k.length:Int)<=20 by omega),decide_eq_true a];cases x==[]<;>rfl
   ·rw[Av (show ¬(k.length:Int)<=20 by omega),decide_eq_false a];rfl
 ·show zD l x k=_;unfold zD;rw[Ag h,Ag h,d];by_cases e:0<k.length
  ·have c:∀y:BO,gd (gL k) y=y:=λy=>by
    unfold gL;rw[AP (by omega),AP (by omega),AP (by omega),AP (AH.2 ⟨by omega,by omega⟩),xG]
   have f:k.getD ((k.length:Int)-1).toNat Ty.str.dflt=ET [] k:=by
    rw[OL k [] e,show((k.length:Int)-1).toNat=k.length-1 by omega];rfl
   rw[Au (show(k.length:Int)>0 by omega),f,decide_eq_true e,Bool.true_and,c];cases l.all Bh
   ·rfl
   ·by_cases a:k.length<=20
    ·rw[Au (show(k.length:Int)<=20 by omega),Au (show(k.length:Int)>0 by omega),decide_eq_true a,c];cases x==ET [] k<;>first|rfl|(rw[Au (show(k.length:Int)>0 by omega)];rfl)
    ·rw[Av (show ¬(k.length:Int)<=20 by omega),decide_eq_false a,c];first|rfl|(rw[Au (show(k.length:Int)>0 by omega)];rfl)
  ·have:k=[]:=List.eq_nil_of_length_eq_zero (by omega);subst this;cases l.all Bh
   ·rfl
   ·cases x==[]<;>rfl
def UC (s:O2) (y:BO):BO:=bif decide ((s.1.length:Int)>0) then(bif decide ((s.2.1.length:Int)>0) then bO false else gd [UA s] y) else gd [UA s] y
theorem kH {s:O2} {b:Bool} {y:BO} (h:UA s=true) (d:y=some (b,())):UC s y=some (!(decide (0<s.1.length)&&decide (0<s.2.1.length))&&b,()):=by
 subst d;unfold UC;rw[Ag h,xG];by_cases a:0<s.1.length
 ·rw[Au (by omega),decide_eq_true a];by_cases c:0<s.2.1.length
  ·rw[Au (by omega),decide_eq_true c];rfl
  ·rw[Av (by omega),decide_eq_false c];rfl
 ·rw[Av (by omega),decide_eq_false a];rfl
theorem QU {s:O2}:Eu s=true↔s.1.length<=1099511627776/\(∀k,k∈s.1->AY k=true)/\Et s.2.1=true:=by
 unfold Eu;rw[Bool.and_eq_true,Bool.and_eq_true,decide_eq_true_eq,List.all_eq_true]
end Nice
namespace Go.Proofs.YtkgejlchafionaaGreatDoor
open Tryz
open Nice Go.RowKit
abbrev K6:List (Nat×List (Nat×Sh)):=[(5,[(1,(.obj [(.dat .str),(.dat AB),.sym,.sym])),(2,(.one .sym)),(3,(.one (.dat .str))),(20,(.one (.dat .str))),(21,(.one .sym)),(22,(.one .sym))])]
def Ih (N:Nat) (n:List (L8)) (l:List AD) (b:Bool) (x:L8) (k:List (L8)) (m i:Int):BO:=rH prog (AL [(163,OH),(100,Az),(164,OG)]) (AC K6) f119 [.bool] N 0 [(1,.pointer (some ⟨12,0,none⟩)),(2,.bool false),(3,dt 13),(20,dt 14),(21,sy (.int .i64 m)),(22,sy (.int .i64 i))] [.dat .str n,.dat AB l,.row [dt 10,dt 11,.bool b,sy (.string (bs x))] 139 false,.dat .str k,.dat .str k]
def mS (x:AA [Gz]):BO:=fO prog (AL [(163,OH),(100,Az),(164,OG)]) (AC K6) f119 [Gz] [.bool] x
theorem kI (x:AA [Gz]):mS x=BV prog (AL [(163,OH),(100,Az),(164,OG)]) (AC K6) f119 [Gz] [.bool] AE x:=rfl
theorem eY (N:Nat) (n:List (L8)) (l:List AD) (x:L8):BV prog (AL [(163,OH),(100,Az),(164,OG)]) (AC K6) f119 [Gz] [.bool] N ((n,l,true,x,()),())=UC (n,l,true,x,()) (Ih N n l true x (B7 n l) ((B7 n l).length:Int) 0):=by kernel_rfl
theorem eZ (N:Nat) (n:List (L8)) (l:List AD) (x:L8):BV prog (AL [(163,OH),(100,Az),(164,OG)]) (AC K6) f119 [Gz] [.bool] N ((n,l,false,x,()),())=UC (n,l,false,x,()) (Ih N n l false x (B7 n l) ((B7 n l).length:Int) 0):=by kernel_rfl
theorem eb (N:Nat) (n:List (L8)) (l:List AD) (x:L8) (k:List (L8)) (m i:Int):Ih (N+1) n l true x k m i=OO k m i (Ih N n l true x k m (i+1)) (u4 true l x k):=by kernel_rfl
theorem ec (N:Nat) (n:List (L8)) (l:List AD) (x:L8) (k:List (L8)) (m i:Int):Ih (N+1) n l false x k m i=OO k m i (Ih N n l false x k m (i+1)) (u4 false l x k):=by kernel_rfl
theorem Ye (N:Nat) (n:List (L8)) (l:List AD) (b:Bool) (x:L8) (k:List (L8)) (m i:Int):Ih (N+1) n l b x k m i=OO k m i (Ih N n l b x k m (i+1)) (u4 b l x k):=by
 cases b
 ·exact ec N n l x k m i
 ·exact eb N n l x k m i
theorem p6 (n:List (L8)) (l:List AD) (b:Bool) (x:L8) (k:List (L8)) (q:k.length<=4398046511104) (h:∀s,s∈k->AY s=true) (c:Bool) (j:u4 b l x k=some (c,())):∀(r i N:Nat),k.length=i+r->r<N->Ih N n l b x k (k.length:Int) (i:Int)=some (Fp (bif i==0 then [] else k.getD (i-1) []) (k.drop i)&&c,()):=by
 intro r
 induction r with
 |zero=>
  intro i N o hN;obtain⟨N,rfl⟩:∃m,N=m+1:=⟨N-1,by omega⟩
  rw[Ye];unfold OO;rw[Av (by omega),List.drop_eq_nil_of_le (by omega),j];rfl
 |succ r p=>
  intro i N o hN;obtain⟨N,rfl⟩:∃m,N=m+1:=⟨N-1,by omega⟩
  have a:i<k.length:=by omega
  have hd:k.drop i=k.getD i []::k.drop (i+1):=by
   rw[List.drop_eq_getElem_cons a,List.getD_eq_getElem?_getD,List.getElem?_eq_getElem a];rfl
  have f:AY (k.getD i [])=true:=h _ (by
   rw[List.getD_eq_getElem?_getD,List.getElem?_eq_getElem a];exact List.getElem_mem a)
  have this:=p (i+1) N (by omega) (by omega);rw[show((i+1:Nat)==0)=false from rfl,xF,Nat.add_sub_cancel] at this;simp only[Int.natCast_add,Int.natCast_one] at this;have d:Ad .i64 ((i:Int)+1):=AH.2 ⟨by omega,by omega⟩;rw[Ye];unfold OO;rw[Au (by omega),show(i:Int).toNat=i from rfl,show k.getD i Ty.str.dflt=k.getD i [] from rfl,AP a,AP (by omega),AP (by omega),xG,hd,DG,this]
  cases e:isKey (k.getD i [])
  ·rw[xF,Ag f,xG];rfl
  ·rw[xT,Bool.true_and];rcases Nat.eq_zero_or_pos i with g|g
   ·subst g;rw[Av (by omega),AP d,Ag f,xG,show((0:Nat)==0)=true from rfl,xT,eV e,Bool.true_and]
   ·rw[Au (by omega),show((i:Int)-1).toNat=i-1 by omega,show(i==0)=false from by rw[beq_eq_false_iff_ne];omega,xF,show k.getD (i-1) Ty.str.dflt=k.getD (i-1) [] from rfl];cases Op.bytesLess (k.getD (i-1) []) (k.getD i [])
    ·rw[Bool.not_false,xT,AP (by omega),AP (by omega),AP (by omega),AP (AH.2 ⟨by omega,by omega⟩),Ag f,xG];rfl
    ·rw[Bool.not_true,xF,AP d,AP (by omega),AP (by omega),AP (by omega),AP (AH.2 ⟨by omega,by omega⟩),Ag f,xG,Bool.true_and]
theorem ed {n:List (L8)} {l:List AD} {b:Bool} {x:L8} (h:Eu (n,l,b,x,())=true):UC (n,l,b,x,()) (Ih AE n l b x (B7 n l) ((B7 n l).length:Int) 0)=some (Gm (n,l,b,x,()),()):=by
 obtain⟨c,g,d⟩:=QU.1 h;have f:=K5.1 d;have c:n.length<=1099511627776:=c;have i:l.length<=1099511627776:=f.1;have j:(B7 n l).length=n.length+l.length:=by unfold B7;rw[List.length_append,List.length_map]
 have k:∀s,s∈B7 n l->AY s=true:=λs a=>by
  rcases List.mem_append.1 a with a|a
  ·exact g s a
  ·obtain⟨e,m,rfl⟩:=List.mem_map.1 a;have:=f.2 e m;unfold CN at this;rw[Bool.and_eq_true] at this;exact this.1
 have:=p6 n l b x (B7 n l) (by omega) k _ (u5 b x d (by omega)) (B7 n l).length 0 AE (by omega) (by unfold AE;omega);refine kH (s:=(n,l,b,x,())) (by unfold UA;rw[Bool.and_eq_true];exact⟨decide_eq_true c,decide_eq_true i⟩) ?_;exact this
theorem p7:PC 119 Hy:=(AN (sh:=AC K6) (AG (l:=[(163,OH),(100,Az),(164,OG)]) ⟨p5,M8,pz,trivial⟩) AM func119 (by kernel_rfl) (by decide)).nice λ⟨⟨n,l,b,x,()⟩,()⟩ h=>by
 show mS _=some (Gm (n,l,b,x,()),());rw[kI];cases b
 ·rw[eZ];exact ed h
 ·rw[eY];exact ed h
end Go.Proofs.YtkgejlchafionaaGreatDoor
namespace Nice
def zF (b:Bool) (s:O2):Bool:=match b with
 |true=>((s.1.length:Int)+(s.2.1.length:Int)==0)
 |false=> !s.2.2.2.1==[]
def UD (b:Bool) (s:O2) (y:BO):BO:=gd [decide (Ad .i64 ((s.1.length:Int)+(s.2.1.length:Int)))] (bif decide ((s.1.length:Int)>0) then(bif decide ((s.2.1.length:Int)>0) then bO false else(bif decide ((s.1.length:Int)+(s.2.1.length:Int)>20) then bO false else bif zF b s then bO false else y))
 else(bif decide ((s.1.length:Int)+(s.2.1.length:Int)>20) then bO false else bif zF b s then bO false else y))
abbrev gI {α:Type} (l:List α) (i:Int):List Bool:=[decide (i.toNat<l.length),decide (0<=i),decide (i<(l.length:Int))]
def OP (n:List (L8)) (t:L8) (i:Int) (a b:BO):BO:=
 bif decide (i<(n.length:Int)) then(bif isKey (n.getD i.toNat Ty.str.dflt) then(bif Op.bytesLess (n.getD i.toNat Ty.str.dflt) t||n.getD i.toNat Ty.str.dflt==t then gd (gI n i++[AY (n.getD i.toNat Ty.str.dflt)]++gI n i) (bO false)
     else gd (decide (Ad .i64 (i+1))::(gI n i++gI n i++[AY (n.getD i.toNat Ty.str.dflt)]++gI n i)) a)
  else gd (AY (n.getD i.toNat Ty.str.dflt)::gI n i) (bO false)) else b
def OQ (l:List AD) (t:L8) (i:Int) (a b:BO):BO:=
 bif decide (i<(l.length:Int)) then(bif Bh ((l.getD i.toNat (AB).dflt).1,(l.getD i.toNat (AB).dflt).2.1,()) then(bif Op.bytesLess (l.getD i.toNat (AB).dflt).1 t||(l.getD i.toNat (AB).dflt).1==t then gd (gI l i++[CN ((l.getD i.toNat (AB).dflt).1,(l.getD i.toNat (AB).dflt).2.1,())]++gI l i) (bO false)
     else gd (decide (Ad .i64 (i+1))::(gI l i++gI l i++[CN ((l.getD i.toNat (AB).dflt).1,(l.getD i.toNat (AB).dflt).2.1,())]++gI l i)) a)
  else gd (CN ((l.getD i.toNat (AB).dflt).1,(l.getD i.toNat (AB).dflt).2.1,())::gI l i) (bO false)) else b
def xg (b:Bool) (x t:L8):BO:=match b with
 |true=>bif x==t then bO true else bO false
 |false=>bO true
def eh (b:Bool) (x t:L8):Bool:=bif b then x==t else true
theorem u6 (b:Bool) (x t:L8):xg b x t=some (eh b x t,()):=by
 cases b
 ·rfl
 ·show(bif x==t then bO true else bO false)=_;unfold eh;cases x==t<;>rfl
theorem UE {a b:L8}:(Op.bytesLess a b||a==b)= !Op.bytesLess b a:=by
 rw[OJ b a,Bool.not_not]
theorem zH:∀(e a a2 a3 a4 a5 c d b:Bool),(e&&(a4&&((bif b then a5 else d)&&(a&&(a2&&a3&&bif b then c else true)))))=(e&&(a&&a2&&(a3&&(a4&&bif b then a5&&c else d)))):=by
 intro e a a2 a3 a4 a5 c d b;cases b<;>cases a4<;>cases a5<;>cases d<;>cases a<;>cases a2<;>cases a3<;>cases c<;>rfl
theorem kJ {s:O2} {c:Bool} {y:BO} (a:s.1.length<=1099511627776) (b:s.2.1.length<=1099511627776) (f:y=some (c,())):UD s.2.2.1 s y=some (!(decide (0<s.1.length)&&decide (0<s.2.1.length))&&(decide ((B7 s.1 s.2.1).length<=20)&&((bif s.2.2.1 then decide (0<(B7 s.1 s.2.1).length) else s.2.2.2.1==[])&&c)),()):=by
 have e:(B7 s.1 s.2.1).length=s.1.length+s.2.1.length:=by unfold B7;rw[List.length_append,List.length_map]
 have g:zF s.2.2.1 s= !(bif s.2.2.1 then decide (0<(B7 s.1 s.2.1).length) else s.2.2.2.1==[]):=by
  cases s.2.2.1
  ·rfl
  ·show((s.1.length:Int)+(s.2.1.length:Int)==0)= !decide (0<(B7 s.1 s.2.1).length);rw[e];by_cases h:s.1.length+s.2.1.length=0
   ·rw[decide_eq_false (show ¬0<s.1.length+s.2.1.length by omega),beq_iff_eq.2 (show(s.1.length:Int)+(s.2.1.length:Int)=0 by omega)];rfl
   ·rw[decide_eq_true (show 0<s.1.length+s.2.1.length by omega),beq_eq_false_iff_ne.2 (show(s.1.length:Int)+(s.2.1.length:Int)≠0 by omega)];rfl
 subst f;unfold UD;rw[g,AP (AH.2 ⟨by omega,by omega⟩),xG];have d:(bif decide ((s.1.length:Int)+(s.2.1.length:Int)>20) then bO false else bif !(bif s.2.2.1 then decide (0<(B7 s.1 s.2.1).length) else s.2.2.2.1==[]) then bO false else some (c,()))=some (decide ((B7 s.1 s.2.1).length<=20)&&((bif s.2.2.1 then decide (0<(B7 s.1 s.2.1).length) else s.2.2.2.1==[])&&c),()):=by
  generalize (bif s.2.2.1 then decide (0<(B7 s.1 s.2.1).length) else s.2.2.2.1==[])=q;rw[e];by_cases h:s.1.length+s.2.1.length<=20
  ·rw[Av (by omega),decide_eq_true h];cases q<;>rfl
  ·rw[Au (by omega),decide_eq_false h];rfl
 rw[d];by_cases a:0<s.1.length
 ·rw[Au (by omega),decide_eq_true a];by_cases b:0<s.2.1.length
  ·rw[Au (by omega),decide_eq_true b];rfl
  ·rw[Av (by omega),decide_eq_false b];rfl
 ·rw[Av (by omega),decide_eq_false a];rfl
end Nice
namespace Go.Proofs.YtkgejlchafionaaGreatDoor
open Tryz
open Nice Go.RowKit
abbrev Wp:List (Nat×List (Nat×Sh)):=[(6,[(1,(.obj [(.dat .str),(.dat AB),.sym,.sym])),(2,(.one .sym)),(4,(.one .sym)),(5,(.one .sym))]),(12,[(1,(.obj [(.dat .str),(.dat AB),.sym,.sym])),(2,(.one .sym)),(4,(.one .sym)),(6,(.one .sym))])]
def PE (N:Nat) (n:List (L8)) (l:List AD) (b:Bool) (x t:L8) (i:Int):BO:=rH prog (AL [(26,Az),(24,GU)]) (AC Wp) f58 [.bool] N 0 [(1,.pointer (some ⟨12,0,none⟩)),(2,.bool false),(4,sy (.string (bs t))),(5,sy (.int .i64 i))] [.dat .str n,.dat AB l,.row [dt 10,dt 11,.bool b,sy (.string (bs x))] 94 false]
def PF (N:Nat) (n:List (L8)) (l:List AD) (b:Bool) (x t:L8) (i:Int):BO:=rH prog (AL [(26,Az),(24,GU)]) (AC Wp) f58 [.bool] N 1 [(1,.pointer (some ⟨12,0,none⟩)),(2,.bool false),(4,sy (.string (bs t))),(6,sy (.int .i64 i))] [.dat .str n,.dat AB l,.row [dt 10,dt 11,.bool b,sy (.string (bs x))] 94 false]
def orm (x:AA [Gz]):BO:=fO prog (AL [(26,Az),(24,GU)]) (AC Wp) f58 [Gz] [.bool] x
theorem u7 (x:AA [Gz]):orm x=BV prog (AL [(26,Az),(24,GU)]) (AC Wp) f58 [Gz] [.bool] AE x:=rfl
theorem p8 (N:Nat) (n:List (L8)) (l:List AD) (x:L8):BV prog (AL [(26,Az),(24,GU)]) (AC Wp) f58 [Gz] [.bool] N ((n,l,true,x,()),())=UD true (n,l,true,x,()) (PE N n l true x [] 0):=by kernel_rfl
theorem p9 (N:Nat) (n:List (L8)) (l:List AD) (x:L8):BV prog (AL [(26,Az),(24,GU)]) (AC Wp) f58 [Gz] [.bool] N ((n,l,false,x,()),())=UD false (n,l,false,x,()) (PE N n l false x [] 0):=by kernel_rfl
theorem u9 (N:Nat) (n:List (L8)) (l:List AD) (x t:L8) (i:Int):PE (N+1) n l true x t i=OP n t i (PE N n l true x (n.getD i.toNat Ty.str.dflt) (i+1)) (PF N n l true x t 0):=by kernel_rfl
theorem vA (N:Nat) (n:List (L8)) (l:List AD) (x t:L8) (i:Int):PE (N+1) n l false x t i=OP n t i (PE N n l false x (n.getD i.toNat Ty.str.dflt) (i+1)) (PF N n l false x t 0):=by kernel_rfl
theorem vB (N:Nat) (n:List (L8)) (l:List AD) (x t:L8) (i:Int):PF (N+1) n l true x t i=OQ l t i (PF N n l true x (l.getD i.toNat (AB).dflt).1 (i+1)) (xg true x t):=by kernel_rfl
theorem vC (N:Nat) (n:List (L8)) (l:List AD) (x t:L8) (i:Int):PF (N+1) n l false x t i=OQ l t i (PF N n l false x (l.getD i.toNat (AB).dflt).1 (i+1)) (xg false x t):=by kernel_rfl
theorem vD (N:Nat) (n:List (L8)) (l:List AD) (b:Bool) (x t:L8) (i:Int):PE (N+1) n l b x t i=OP n t i (PE N n l b x (n.getD i.toNat Ty.str.dflt) (i+1)) (PF N n l b x t 0):=by
 cases b
 ·exact vA N n l x t i
 ·exact u9 N n l x t i
theorem vE (N:Nat) (n:List (L8)) (l:List AD) (b:Bool) (x t:L8) (i:Int):PF (N+1) n l b x t i=OQ l t i (PF N n l b x (l.getD i.toNat (AB).dflt).1 (i+1)) (xg b x t):=by
 cases b
 ·exact vC N n l x t i
 ·exact vB N n l x t i
theorem vF (n:List (L8)) (l:List AD) (b:Bool) (x:L8) (p:l.length<=1099511627776) (h:∀e,e∈l->CN e=true):∀(r i N:Nat) (t:L8),l.length=i+r->r<N->PF N n l b x t (i:Int)=some (QR t (l.drop i)&&eh b x (ET t ((l.drop i).map (·.1))),()):=by
 intro r
 induction r with
 |zero=>
  intro i N t j hN;obtain⟨N,rfl⟩:∃m,N=m+1:=⟨N-1,by omega⟩
  rw[vE];unfold OQ;rw[Av (by omega),List.drop_eq_nil_of_le (by omega),u6];rfl
 |succ r k=>
  intro i N t j hN;obtain⟨N,rfl⟩:∃m,N=m+1:=⟨N-1,by omega⟩
  have a:i<l.length:=by omega
  have hd:l.drop i=l.getD i (AB).dflt::l.drop (i+1):=by
   rw[List.drop_eq_getElem_cons a,List.getD_eq_getElem?_getD,List.getElem?_eq_getElem a];rfl
  have f:CN (l.getD i (AB).dflt)=true:=h _ (by
   rw[List.getD_eq_getElem?_getD,List.getElem?_eq_getElem a];exact List.getElem_mem a)
  have this:=k (i+1) N (l.getD i (AB).dflt).1 (by omega) (by omega);simp only[Int.natCast_add,Int.natCast_one] at this;have g:Ad .i64 ((i:Int)+1):=AH.2 ⟨by omega,by omega⟩;have g1:decide (i<l.length)=true:=decide_eq_true a;have o:decide ((0:Int)<=(i:Int))=true:=decide_eq_true (by omega);have g3:decide ((i:Int)<(l.length:Int))=true:=decide_eq_true (by omega)
  have d:∀(q:List Bool) (y:BO),gd (gI l (i:Int)++q) y=gd q y:=λq y=>by
   unfold gI;rw[show(i:Int).toNat=i from rfl,List.cons_append,List.cons_append,List.cons_append,List.nil_append,Ag g1,Ag o,Ag g3]
  have c:∀(y:BO),gd (gI l (i:Int)) y=y:=λy=>by have:=d [] y;rw[List.append_nil] at this;rw[this,xG]
  rw[vE];unfold OQ;rw[Au (by omega),show(i:Int).toNat=i from rfl,hd,OI,List.map_cons,this,UE,show((l.getD i (AB).dflt).1,(l.getD i (AB).dflt).2.1,())=l.getD i (AB).dflt from rfl];cases Bh (l.getD i (AB).dflt)
  ·rw[xF,Ag f,c];rfl
  ·rw[xT,Bool.true_and];cases Op.bytesLess t (l.getD i (AB).dflt).1
   ·rw[Bool.not_false,xT,List.append_assoc,d,List.singleton_append,Ag f,c];rfl
   ·rw[Bool.not_true,xF,AP g,List.append_assoc,List.append_assoc,d,d,List.singleton_append,Ag f,c,Bool.true_and];rfl
theorem vG (n:List (L8)) (l:List AD) (b:Bool) (x:L8) (v:n.length<=1099511627776) (h:∀k,k∈n->AY k=true) (j:l.length<=1099511627776) (o:∀e,e∈l->CN e=true):∀(r i N:Nat) (t:L8),n.length=i+r->r+l.length+2<N->PE N n l b x t (i:Int)=some (Fp t (n.drop i)&&(QR (ET t (n.drop i)) l&&eh b x (ET (ET t (n.drop i)) (l.map (·.1)))),()):=by
 intro r
 induction r with
 |zero=>
  intro i N t p hN;obtain⟨N,rfl⟩:∃m,N=m+1:=⟨N-1,by omega⟩
  have:=vF n l b x j o l.length 0 N t (by omega) (by omega);rw[vD];unfold OP;rw[Av (by omega),List.drop_eq_nil_of_le (by omega)];exact this
 |succ r s=>
  intro i N t p hN;obtain⟨N,rfl⟩:∃m,N=m+1:=⟨N-1,by omega⟩
  have a:i<n.length:=by omega
  have hd:n.drop i=n.getD i []::n.drop (i+1):=by
   rw[List.drop_eq_getElem_cons a,List.getD_eq_getElem?_getD,List.getElem?_eq_getElem a];rfl
  have f:AY (n.getD i [])=true:=h _ (by
   rw[List.getD_eq_getElem?_getD,List.getElem?_eq_getElem a];exact List.getElem_mem a)
  have this:=s (i+1) N (n.getD i []) (by omega) (by omega);simp only[Int.natCast_add,Int.natCast_one] at this;have g:Ad .i64 ((i:Int)+1):=AH.2 ⟨by omega,by omega⟩;have g1:decide (i<n.length)=true:=decide_eq_true a;have u:decide ((0:Int)<=(i:Int))=true:=decide_eq_true (by omega);have g3:decide ((i:Int)<(n.length:Int))=true:=decide_eq_true (by omega)
  have d:∀(q:List Bool) (y:BO),gd (gI n (i:Int)++q) y=gd q y:=λq y=>by
   unfold gI;rw[show(i:Int).toNat=i from rfl,List.cons_append,List.cons_append,List.cons_append,List.nil_append,Ag g1,Ag u,Ag g3]
  have c:∀(y:BO),gd (gI n (i:Int)) y=y:=λy=>by have:=d [] y;rw[List.append_nil] at this;rw[this,xG]
  rw[vD];unfold OP;rw[Au (by omega),show(i:Int).toNat=i from rfl,show n.getD i Ty.str.dflt=n.getD i [] from rfl,hd,DG,this,UE];cases isKey (n.getD i [])
  ·rw[xF,Ag f,c];rfl
  ·rw[xT,Bool.true_and];cases Op.bytesLess t (n.getD i [])
   ·rw[Bool.not_false,xT,List.append_assoc,d,List.singleton_append,Ag f,c];rfl
   ·rw[Bool.not_true,xF,AP g,List.append_assoc,List.append_assoc,d,d,List.singleton_append,Ag f,c,Bool.true_and];rfl
theorem vH {n:List (L8)} {l:List AD} {b:Bool} {x:L8} (h:Eu (n,l,b,x,())=true):UD b (n,l,b,x,()) (PE AE n l b x [] 0)=some (Gm (n,l,b,x,()),()):=by
 obtain⟨a,e,f⟩:=QU.1 h;have c:=K5.1 f;have a:n.length<=1099511627776:=a;have d:l.length<=1099511627776:=c.1;have:=vG n l b x a e d c.2 n.length 0 AE [] (by omega) (by unfold AE;omega);rw[List.drop_zero] at this;refine(kJ (s:=(n,l,b,x,())) a d this).trans ?_;unfold Gm eh
 dsimp only;rw[show B7 n l=n++l.map (·.1) from rfl,QS,QT,UB];exact congrArg (λq=>some (q,())) (zH _ _ _ _ _ _ _ _ _)
theorem kK:PC 58 Hy:=(AN (sh:=AC Wp) (AG (l:=[(26,Az),(24,GU)]) ⟨Vd,mM,trivial⟩) AM func58 (by kernel_rfl) (by decide)).nice λ⟨⟨n,l,b,x,()⟩,()⟩ h=>by
 show orm _=some (Gm (n,l,b,x,()),());rw[u7];cases b
 ·rw[p9];exact vH h
 ·rw[p8];exact vH h
end Go.Proofs.YtkgejlchafionaaGreatDoor
namespace Nice
theorem ej (u:Nat):DV (u:Int)=Lib.decDigits u:=by
 show Lib.itoa (u:Int)=_;unfold Lib.itoa;rw[if_neg (by omega)];rfl
theorem ABF:∀(f u:Nat) (a:L8),u<10^f->0<f->KE f u a=Lib.decDigits u++a
 |0,_,_,_,h=>absurd h (Nat.lt_irrefl 0)
 |f+1,u,a,c,_=>by
  unfold KE;by_cases h:u<10
  ·rw[if_pos (by omega),Lib.decDigits_one h,Nat.mod_eq_of_lt h];rfl
  ·have d:0<f:=by
    rcases Nat.eq_zero_or_pos f with b|b
    ·subst b;simp at c;omega
    ·exact b
   rw[if_neg (by omega),ABF f (u/10) _ (by rw[Nat.pow_succ] at c;omega) d]
   conv=>rhs;rw[Lib.decDigits,dif_neg h]
   rw[List.append_assoc];rfl
theorem GV {n:Int} (a:0<=n) (b:n<=1099511627776):Bp n=DV n:=by
 obtain⟨u,rfl⟩:∃u:Nat,n=(u:Int):=⟨n.toNat,by omega⟩
 unfold Bp KF;rw[if_neg (by omega),ej,show((u:Int)).toNat=u from rfl,ABF 20 u [] (by omega) (by decide),List.append_nil]
end Nice
namespace Go.Proofs.YtkgejlchafionaaGreatDoor
open Tryz
open Nice Go.RowKit
theorem fmt_len {n:Int} (a:0<=n) (b:n<=1099511627776):(DV n).length<=20:=by
 rw[<-GV a b];unfold Bp;rw[if_neg (by omega)];exact S4 n
end Go.Proofs.YtkgejlchafionaaGreatDoor
namespace Go.Eng
open Go
abbrev M3:=Int×Int×Int
def OS (m:M3):List Value:=[.int .i64 m.1,.int .i64 m.2.1,.int .i64 m.2.2]
structure DfW (w wr:World) (b:Nat) (C:Array Value) (e:TypeId) (fr:Nat×Nat):Prop where
 size:w.heap.size<=wr.heap.size
 old:∀x,x<w.heap.size->x≠b->wr.heap[x]?=w.heap[x]?
 row:wr.heap[b]?=some (.cells C e fr)
 os:wr.os=w.os
 out:wr.output=w.output
section
variable {w wr:World} {b:Nat} {C:Array Value} {e:TypeId} {fr:Nat×Nat}
theorem DfW.same (h:DfW w wr b C e fr) {w':World} (a:Bx wr w'):DfW w w' b C e fr:=by
 have d:=Ap h.row;exact⟨Nat.le_trans h.size a.1,λx f c=>by rw[a.2.2.2 x (by have:=h.size;omega)];exact h.old x f c,by rw[a.2.2.2 b d];exact h.row,a.2.1.trans h.os,a.2.2.1.trans h.out⟩
theorem DfW.set (h:DfW w wr b C e fr) (o:Nat) (v:Value):DfW w (wr.setCell ⟨b,o,none⟩ v) b (C.setIfInBounds o v) e fr:=by
 have c:=Ap h.row;have d:wr.setCell ⟨b,o,none⟩ v=wr.setCells b o [v]:=rfl;rw[d,Aw b e fr [v] o C wr h.row];refine⟨?_,λx f a=> ?_,?_,h.os,h.out⟩
 ·show _<=(wr.heap.setIfInBounds _ _).size;rw[Array.size_setIfInBounds];exact h.size
 ·show(wr.heap.setIfInBounds _ _)[x]?=_;rw[Array.getElem?_setIfInBounds_ne (Ne.symm a)];exact h.old x f a
 ·show(wr.heap.setIfInBounds _ _)[b]?=_;rw[Array.getElem?_setIfInBounds_self_of_lt c];rfl
theorem DfW.cell (h:DfW w wr b C e fr) {o:Nat} {v:Value} (a:C[o]?=some v):wr.cell? ⟨b,o,none⟩=some v:=by
 simp only[World.cell?,h.row,Option.isSome_none,Bool.false_eq_true,if_false];exact a
theorem DfW.frz (h:DfW w wr b C e fr) {o:Nat} (a:∀o,o<C.size->¬(fr.1<=o/\o<fr.2)) (c:o<C.size):wr.frozen? ⟨b,o,none⟩=false:=by
 have:=a o c;simp only[World.frozen?,h.row];simpa using this
end
structure KI (p:M3->Bool) (M:List M3) (C:Array Value) (off sz i j:Nat):Prop where
 szC:C.size=sz
 fit:off+M.length*3<=sz
 lt:i<j
 le:j<=M.length
 len:((M.take j).filter λx=> !p x).length=i
 low:∀t s,s<3->t<i->∀m,((M.take j).filter λx=> !p x)[t]?=some m->C[off+t*3+s]?=(OS m)[s]?
 hi:∀t s,s<3->j<=t->∀m,M[t]?=some m->C[off+t*3+s]?=(OS m)[s]?
theorem KI.skip {p:M3->Bool} {M:List M3} {C:Array Value} {off sz i j:Nat} (h:KI p M C off sz i j) {m:M3} (a:M[j]?=some m) (d:p m=true):KI p M C off sz i (j+1):=by
 have f:j<M.length:=by
  rcases Nat.lt_or_ge j M.length with h|h
  ·exact h
  ·rw[List.getElem?_eq_none h] at a;cases a
 have e:((M.take (j+1)).filter λx=> !p x)=(M.take j).filter λx=> !p x:=by
  rw[List.take_add_one,a,List.filter_append];simp[d]
 exact⟨h.szC,h.fit,by have:=h.lt;omega,by omega,by rw[e];exact h.len,λt s b c m a=>h.low t s b c m (by rwa[e] at a),λt s b c=>h.hi t s b (by omega)⟩
theorem KI.keep {p:M3->Bool} {M:List M3} {C:Array Value} {off sz i j:Nat} (h:KI p M C off sz i j) {m:M3} (g:M[j]?=some m) (n:p m=false):
  KI p M (((C.setIfInBounds (off+i*3) (.int .i64 m.1)).setIfInBounds (off+i*3+1) (.int .i64 m.2.1)).setIfInBounds (off+i*3+2) (.int .i64 m.2.2)) off sz (i+1) (j+1):=by
 have q:j<M.length:=by
  rcases Nat.lt_or_ge j M.length with h|h
  ·exact h
  ·rw[List.getElem?_eq_none h] at g;cases g
 have e:((M.take (j+1)).filter λx=> !p x)=((M.take j).filter λx=> !p x)++[m]:=by
  rw[List.take_add_one,g,List.filter_append];simp[n]
 have o:=h.lt;have d:=h.fit;have a:=h.len;have k:=h.szC;have gt:∀t s,s<3->(t<i\/i<t)->(((C.setIfInBounds (off+i*3) (.int .i64 m.1)).setIfInBounds (off+i*3+1) (.int .i64 m.2.1)).setIfInBounds (off+i*3+2) (.int .i64 m.2.2))[off+t*3+s]?=C[off+t*3+s]?:=λt s b l=>by
  rw[Array.getElem?_setIfInBounds_ne (by omega),Array.getElem?_setIfInBounds_ne (by omega),Array.getElem?_setIfInBounds_ne (by omega)]
 refine⟨by simp[k],d,by omega,by omega,by rw[e,List.length_append,a];rfl,λt s b l x c=> ?_,λt s b l x c=> ?_⟩
 ·rw[e] at c;by_cases f:t<i
  ·rw[List.getElem?_append_left (by omega)] at c;rw[gt t s b (.inl f)];exact h.low t s b f x c
  ·obtain rfl:t=i:=by omega
   rw[List.getElem?_append_right (by omega),a,Nat.sub_self] at c;cases c
   match s,b with
   |0,_=>
    rw[Array.getElem?_setIfInBounds_ne (by omega),Array.getElem?_setIfInBounds_ne (by omega)];exact Array.getElem?_setIfInBounds_self_of_lt (by omega)
   |1,_=>
    rw[Array.getElem?_setIfInBounds_ne (by omega)];exact Array.getElem?_setIfInBounds_self_of_lt (by rw[Array.size_setIfInBounds];omega)
   |2,_=>exact Array.getElem?_setIfInBounds_self_of_lt (by rw[Array.size_setIfInBounds,Array.size_setIfInBounds];omega)
 ·rw[gt t s b (.inr (by omega))];exact h.hi t s b (by omega) x c
end Go.Eng
namespace Go.Proofs.YtkgejlchafionaaGreatDoor
open Tryz
open Go.RowKit Go.Shelf Go.Lib
set_option maxHeartbeats 4000000
def Yf (w:World) (b:Nat) (a:Array Value) (p:M3->Bool):Prop:=
 ∀(W:World) (m:M3),w.heap.size<=W.heap.size->(∀x,x<w.heap.size->x≠b->W.heap[x]?=w.heap[x]?)->Calls prog 72 (#[.agg (OS m).toArray]++a) W λe w'=>e=.returned (.bool (p m))/\Bx W w'
def R5 (p:M3->Bool) (M:List M3):Int:=bif decide (M.findIdx p<M.length) then(M.findIdx p:Int) else -1
theorem Yg {a b c:World} (h:Bx a b) (k:Bx b c):Bx a c:=⟨Nat.le_trans h.1 k.1,k.2.1.trans h.2.1,k.2.2.1.trans h.2.2.1,λx d=>(k.2.2.2 x (Nat.lt_of_lt_of_le d h.1)).trans (h.2.2.2 x d)⟩
theorem ek {p:M3->Bool} {M:List M3} {k:Nat} {y:M3} (a:k<M.length) (h:∀j m,j<k->M[j]?=some m->p m=false) (b:M[k]?=some y) (c:p y=true):R5 p M=(k:Int):=by
 have e:M.findIdx p=k:=by
  refine(List.findIdx_eq a).2 ⟨?_,λj d=> ?_⟩
  ·rw[List.getElem?_eq_getElem a] at b;cases b;exact c
  ·exact h j _ d (List.getElem?_eq_getElem (by omega))
 unfold R5;rw[e,decide_eq_true a];rfl
theorem aT {p:M3->Bool} {M:List M3} (h:∀j m,j<M.length->M[j]?=some m->p m=false):R5 p M= -1:=by
 have e:M.findIdx p=M.length:=List.findIdx_eq_length.2 λx b=>by
  obtain⟨i,a,rfl⟩:=List.getElem_of_mem b;exact h i _ a (List.getElem?_eq_getElem a)
 unfold R5;rw[e,decide_eq_false (Nat.lt_irrefl _)];rfl
theorem Wq (p:M3->Bool) (M:List M3):(R5 p M= -1/\∀m,m∈M->p m=false)\/∃(k:Nat) (y:M3),k<M.length/\R5 p M=(k:Int)/\M[k]?=some y/\p y=true/\∀j m,j<k->M[j]?=some m->p m=false:=by
 by_cases h:M.findIdx p<M.length
 ·have b:=(List.findIdx_eq h (p:=p)).1 rfl;refine .inr ⟨M.findIdx p,_,h,by unfold R5;rw[decide_eq_true h];rfl,List.getElem?_eq_getElem h,b.1,λj m c a=> ?_⟩;rw[List.getElem?_eq_getElem (by omega)] at a;cases a;exact b.2 j c
 ·refine .inl ⟨by unfold R5;rw[decide_eq_false h];rfl,λm a=> ?_⟩;have e:M.findIdx p=M.length:=Nat.le_antisymm List.findIdx_le_length (by omega);exact List.findIdx_eq_length.1 e m a
theorem ep (b off c:Nat) (B:Array Value) (p:M3->Bool) (M:List M3) (w:World) (D:Yf w b B p) (G:b<w.heap.size) (E:M.length<=1000000)
  (r:∀t s,s<3->∀m,M[t]?=some m->∀v,(OS m)[s]?=some v->w.cell? ⟨b,off+t*3+s,none⟩=some v):
  Calls prog 113 #[.slice (some ⟨b,off,none⟩) M.length c,.func (.func 72) #[] B] w λe w'=>e=.returned (.int .i64 (R5 p M))/\Bx w w':=by
 have mixed:Tryz.prog.follows .mixedOrders=true:=by kernel_rfl
 have L:∀args w,(callFunc 72 args).run prog w=.ok (.enter 72 args) w:=enters_of func72 (by kernel_rfl) rfl
 go_enter func113,ntmps113
 go_wp2
 go_loopg [5,8] M.length (λH _ I wr=>∃d:Nat,d<=M.length/\M.length-d<=H/\I=.int .i64 d/\Aside (Bx w wr)/\Aside (∀j m,j<d->M[j]?=some m->p m=false))
 case atStart=>exact⟨0,Nat.zero_le _,by omega,rfl,⟨Nat.le_refl _,rfl,rfl,λ_ _=>rfl⟩,λj m F=>absurd F (Nat.not_lt_zero _)⟩
 case round=>
  obtain⟨d,J,N,rfl,BW,A⟩:=hrel;by_cases l:d<M.length
  ·have n:(d:Int)<(M.length:Int):=by omega
   obtain⟨⟨g,i,k⟩,q⟩:∃y,M[d]?=some y:=⟨_,List.getElem?_eq_getElem l⟩
   have a:=D wr (g,i,k) BW.out.1 (λx K _=>BW.out.2.2.2 x K);have u:∀o v,w.cell? ⟨b,o,none⟩=some v->wr.cell? ⟨b,o,none⟩=some v:=λo v h=>by
    simp only[World.cell?,BW.out.2.2.2 b G] at h⊢;exact h
   have O:wr.cell? ⟨b,off+d*3,none⟩=some (.int .i64 g):=u _ _ (r d 0 (by omega) _ q _ rfl);have P:wr.cell? ⟨b,off+d*3+1,none⟩=some (.int .i64 i):=u _ _ (r d 1 (by omega) _ q _ rfl);have Q:wr.cell? ⟨b,off+d*3+2,none⟩=some (.int .i64 k):=u _ _ (r d 2 (by omega) _ q _ rfl);have HM:Aside (M[d]?=some (g,i,k)):=q
   have a:Calls prog 72 (#[.agg #[.int .i64 g,.int .i64 i,.int .i64 k]]++B) wr λe w'=>e=.returned (.bool (p (g,i,k)))/\Bx wr w':=a
   clear D u r q;cases z:p (g,i,k) with
   |true=>
    rw[z] at a
    go_wp2_with (go_at_fn 72;refine a.mono ?_;rintro e w' ⟨rfl,f⟩)
    go_ret
    rw[ek l A.out HM.out z];exact⟨rfl,Yg BW.out f⟩
   |false=>
    rw[z] at a
    go_wp2_with (go_at_fn 72;refine a.mono ?_;rintro e w' ⟨rfl,f⟩)
    go_roundg (M.length-(d+1))
    case measure=>omega
    case rel=>
     refine⟨d+1,by omega,by omega,by go_num,(show Aside _ from Yg BW.out f),(show Aside _ from λj m F C=> ?_)⟩;by_cases e:j=d
     ·subst e;rw[HM.out] at C;cases C;exact z
     ·exact A.out j m (by omega) C
  ·have n:¬(d:Int)<(M.length:Int):=by omega
   have:d=M.length:=by omega
   subst this
   go_wp2
   go_ret
   rw[aT A.out];exact⟨rfl,BW.out⟩
theorem z3:Tryz.prog.underlying 25=some (.slice 75):=underlying25
theorem ABc (b off c:Nat) (R:Array Value) (p:M3->Bool) (M:List M3) (w:World) (c0:Array Value) (fr:Nat×Nat) (X:Yf w b R p) (n:w.heap[b]?=some (.cells c0 75 fr)) (N:∀o,o<c0.size->¬(fr.1<=o/\o<fr.2))
  (S:M.length<=1000000) (hcap:M.length<=c) (K:off+M.length*3<=c0.size)
  (P:∀t s,s<3->∀m,M[t]?=some m->c0[off+t*3+s]?=(OS m)[s]?):
  Calls prog 71 #[.slice (some ⟨b,off,none⟩) M.length c,.func (.func 72) #[] R] w λe w'=>∃C,e=.returned (.slice (some ⟨b,off,none⟩) (M.filter λx=> !p x).length c)/\DfW w w' b C 75 fr/\C.size=c0.size/\
   ∀t s,s<3->∀m,(M.filter λx=> !p x)[t]?=some m->C[off+t*3+s]?=(OS m)[s]?:=by
 have mixed:Tryz.prog.follows .mixedOrders=true:=by kernel_rfl
 have eg:∀args w,(callFunc 72 args).run prog w=.ok (.enter 72 args) w:=enters_of func72 (by kernel_rfl) rfl;have ei:∀args w,(callFunc 113 args).run prog w=.ok (.enter 113 args) w:=enters_of func113 (by kernel_rfl) rfl;have hb:=Ap n;have B:DfW w w b c0 75 fr:=⟨Nat.le_refl _,λ_ _ _=>rfl,n,rfl,rfl⟩
 have G:=ep b off c R p M w X hb S (λt s D m F v Q=>B.cell ((P t s D m F).trans Q));rcases Wq p M with⟨e1,hall⟩|⟨H,y,hk0,e1,hy,hpy,hall⟩
 ·rw[e1] at G;have e3:(M.filter λx=> !p x)=M:=List.filter_eq_self.2 λx I=>by rw[hall x I];rfl
  rw[e3];have HC:Aside (∀t s,s<3->∀m,M[t]?=some m->c0[off+t*3+s]?=(OS m)[s]?):=P;have HD:Aside (DfW w w b c0 75 fr):=B;clear X n N P B hall
  go_enter func71,ntmps71
  go_wp2_with (go_at_fn 113;refine G.mono ?_;rintro e w' ⟨rfl,D⟩)
  go_ret
  exact⟨c0,rfl,HD.out.same D,rfl,HC.out⟩
 ·rw[e1] at G;have hne1:((H:Int)== -1)=false:=beq_eq_false_iff_ne.2 (by omega);have L:((M.take H).filter λx=> !p x)=M.take H:=List.filter_eq_self.2 λx I=>by
   obtain⟨i,Y,rfl⟩:=List.getElem_of_mem I;rw[List.length_take] at Y;rw[List.getElem_take,hall i _ (by omega) (List.getElem?_eq_getElem (by omega))];rfl
  have HK0:Aside (KI p M c0 off c0.size H (H+1)):=by
   have e:((M.take (H+1)).filter λx=> !p x)=M.take H:=by
    rw[List.take_add_one,hy,List.filter_append,L];simp[hpy]
   refine⟨rfl,K,by omega,by omega,by rw[e,List.length_take];omega,λt s D Z m F=> ?_,λt s D Z m F=>P t s D m F⟩;rw[e,List.getElem?_take,if_pos Z] at F;exact P t s D m F
  have HP:Aside (Yf w b R p):=X;have HD0:Aside (DfW w w b c0 75 fr):=B;have HF:Aside (∀o,o<c0.size->¬(fr.1<=o/\o<fr.2)):=N;have HB:Aside (b<w.heap.size):=hb;clear X n N P B hall hy L hb
  go_enter func71,ntmps71
  go_wp2_with (go_at_fn 113;refine G.mono ?_;rintro e w' ⟨rfl,D⟩)
  go_loopg [5,6,7] M.length (λgg s5 s6 _ wr=>∃(i j:Nat) (C:Array Value),s5=.int .i64 i/\s6=.int .i64 j/\j<=M.length/\M.length-j<=gg/\Aside (DfW w wr b C 75 fr)/\Aside (KI p M C off c0.size i j))
  case atStart=>exact⟨H,H+1,c0,rfl,by go_num,by omega,by omega,HD0.out.same D,HK0.out⟩
  case round=>
   obtain⟨i,j,C,rfl,rfl,hjd,hgg,DW,I2⟩:=hrel;by_cases hlt:j<M.length
   ·have T:(j:Int)<(M.length:Int):=by omega
    obtain⟨⟨q,r,u⟩,U⟩:∃y,M[j]?=some y:=⟨_,List.getElem?_eq_getElem hlt⟩
    have l0:wr.cell? ⟨b,off+j*3,none⟩=some (.int .i64 q):=DW.out.cell (I2.out.hi j 0 (by omega) (Nat.le_refl _) _ U);have l1:wr.cell? ⟨b,off+j*3+1,none⟩=some (.int .i64 r):=DW.out.cell (I2.out.hi j 1 (by omega) (Nat.le_refl _) _ U);have l2:wr.cell? ⟨b,off+j*3+2,none⟩=some (.int .i64 u):=DW.out.cell (I2.out.hi j 2 (by omega) (Nat.le_refl _) _ U)
    have a:=DW.out;have hij:=I2.out.lt;have g:=I2.out.fit;have f:=I2.out.szC;have hbr:b<wr.heap.size:=Ap a.row;have J:Bx wr (wr.alloc (.cells #[.int .i64 q,.int .i64 r,.int .i64 u] 75)):=⟨by show _<=(wr.heap.push _).size;rw[Array.size_push];omega,rfl,rfl,λx I=>Af wr _ I⟩
    have d:=HP.out (wr.alloc (.cells #[.int .i64 q,.int .i64 r,.int .i64 u] 75)) (q,r,u) (Nat.le_trans a.size J.1) (λx I E=>by rw[J.2.2.2 x (by have:=a.size;omega)];exact a.old x I E);have d:Calls prog 72 (#[.agg #[.int .i64 q,.int .i64 r,.int .i64 u]]++R) (wr.alloc (.cells #[.int .i64 q,.int .i64 r,.int .i64 u] 75)) λe w'=>e=.returned (.bool (p (q,r,u)))/\Aside (DfW w w' b C 75 fr)/\
      w'.cell? ⟨wr.heap.size,0,none⟩=some (.int .i64 q)/\w'.cell? ⟨wr.heap.size,1,none⟩=some (.int .i64 r)/\w'.cell? ⟨wr.heap.size,2,none⟩=some (.int .i64 u)/\
      (∃v,w'.cell? ⟨b,off+i*3,none⟩=some v)/\(∃v,w'.cell? ⟨b,off+i*3+1,none⟩=some v)/\(∃v,w'.cell? ⟨b,off+i*3+2,none⟩=some v)/\
      w'.frozen? ⟨b,off+i*3,none⟩=false/\w'.frozen? ⟨b,off+i*3+1,none⟩=false/\w'.frozen? ⟨b,off+i*3+2,none⟩=false:=by
     refine d.mono ?_;rintro e w' ⟨he,V⟩;have l:=(a.same J).same V;have hn:w'.heap[wr.heap.size]?=some (.cells #[.int .i64 q,.int .i64 r,.int .i64 u] 75):=by
      rw[V.2.2.2 _ (by show _<(wr.heap.push _).size;rw[Array.size_push];omega)];exact Al wr _
     have O:∀o (v:Value),(#[.int .i64 q,.int .i64 r,.int .i64 u]:Array Value)[o]?=some v->w'.cell? ⟨wr.heap.size,o,none⟩=some v:=λo v Q=>by
      simp only[World.cell?,hn,Option.isSome_none,Bool.false_eq_true,if_false];exact Q
     have A:∀o,o<C.size->¬(fr.1<=o/\o<fr.2):=λo ho=>HF.out o (by omega)
     exact⟨he,l,O 0 _ rfl,O 1 _ rfl,O 2 _ rfl,⟨_,l.cell (Array.getElem?_eq_getElem (by omega))⟩,⟨_,l.cell (Array.getElem?_eq_getElem (by omega))⟩,⟨_,l.cell (Array.getElem?_eq_getElem (by omega))⟩,
      l.frz A (by omega),l.frz A (by omega),l.frz A (by omega)⟩
    have HM:Aside (M[j]?=some (q,r,u)):=U;have E:b≠wr.heap.size:=by omega
    have hil:i<M.length:=by omega
    have hilz:(i:Int)<(M.length:Int):=by omega
    clear U a J g f;cases hq:p (q,r,u) with
    |false=>
     rw[hq] at d
     go_wp2_with (go_at_fn 72;refine d.mono ?_;rintro e w' ⟨rfl,D2,n0,n1,n2,⟨v0,a0⟩,⟨v1,a1⟩,⟨v2,a2⟩,f0,f1,f2⟩)
     go_roundg (M.length-(j+1))
     case measure=>omega
     case rel=>
      refine⟨i+1,j+1,((C.setIfInBounds (off+i*3) (.int .i64 q)).setIfInBounds (off+i*3+1) (.int .i64 r)).setIfInBounds (off+i*3+2) (.int .i64 u),by go_num,by go_num,by omega,Nat.le_refl _,(show Aside _ from ?_),(show Aside _ from I2.out.keep HM.out hq)⟩;exact((D2.out.set (off+i*3) (.int .i64 q)).set (off+i*3+1) (.int .i64 r)).set (off+i*3+2) (.int .i64 u)
    |true=>
     rw[hq] at d
     go_wp2_with (go_at_fn 72;refine d.mono ?_;rintro e w' ⟨rfl,D2,n0,n1,n2,⟨v0,a0⟩,⟨v1,a1⟩,⟨v2,a2⟩,f0,f1,f2⟩)
     go_roundg (M.length-(j+1))
     case measure=>omega
     case rel=>exact⟨i,j+1,C,rfl,by go_num,by omega,Nat.le_refl _,D2,(show Aside _ from I2.out.skip HM.out hq)⟩
   ·obtain rfl:j=M.length:=by omega
    have T:¬(M.length:Int)<(M.length:Int):=by omega
    have a:=DW.out;have hil:i<M.length:=I2.out.lt;have g:=I2.out.fit;have f:=I2.out.szC;have W:=I2.out.len;rw[List.take_length] at W;have v3:∀w,(zeroValue 75).run prog w=.ok (.agg #[.int .i64 0,.int .i64 0,.int .i64 0]) w:=zeroValue75;have A:∀o,o<C.size->wr.frozen? ⟨b,o,none⟩=false:=λo ho=>a.frz (λo ho=>HF.out o (by omega)) ho
    have hcl:∀ty,(Builtin.clear_ #[25] ty #[.slice (some ⟨b,off+i*3,none⟩) (M.length-i) (c-i)]).run prog wr=.ok (.tuple #[]) (wr.setCells b (off+i*3) (Builtin.zeroCells #[.int .i64 0,.int .i64 0,.int .i64 0] (M.length-i)).toList):=
     λty=>Ht wr 25 75 ty _ 3 z3 v3 rfl (by intro v Q;simp[Value.cells] at Q;subst Q;rfl) b (off+i*3) _ _ (λk hk=>by
      rw[a.cell (Array.getElem?_eq_getElem (by omega))];rfl) (λk hk=>A _ (by omega)) (by omega)
    have hci:¬(c=i):=by omega
    have hinz:(i:Int)<=(M.length:Int):=by omega
    have hicz:(i:Int)<=(c:Int):=by omega
    clear a A g f
    go_wp2_with (at_builtin;refine wpList_clear_k _ rfl _ _ rfl _ rfl (hcl _) ?_)
    go_ret
    have a:=DW.out;have f:=I2.out.szC;have hzl:(Builtin.zeroCells #[Value.int .i64 0,.int .i64 0,.int .i64 0] (M.length-i)).toList.length=(M.length-i)*3:=by rw[Array.length_toList,Ac];rfl
    refine⟨rfl,BQ C (off+i*3) (Builtin.zeroCells #[.int .i64 0,.int .i64 0,.int .i64 0] (M.length-i)).toList,?_,by rw[AJ];exact f,λt s D x y z F=> ?_⟩
    ·rw[Aw b 75 fr _ _ C wr a.row];refine⟨by show _<=(wr.heap.setIfInBounds _ _).size;rw[Array.size_setIfInBounds];exact a.size,λx I E=> ?_,?_,a.os,a.out⟩
     ·show(wr.heap.setIfInBounds _ _)[x]?=_;rw[Array.getElem?_setIfInBounds_ne (Ne.symm E)];exact a.old x I E
     ·show(wr.heap.setIfInBounds _ _)[b]?=_;rw[Array.getElem?_setIfInBounds_self_of_lt (Ap a.row)]
    ·have Z:t<i:=by
      rcases Nat.lt_or_ge t i with h|h
      ·exact h
      ·rw[List.getElem?_eq_none (by omega)] at F;cases F
     have K:=I2.out.fit;rw[Bo _ _ _ _ (by omega),if_neg (by omega)];exact I2.out.low t s D Z (x,y,z) (by rw[List.take_length];exact F)
end Go.Proofs.YtkgejlchafionaaGreatDoor
namespace Nice
def L5 (x y:BU):Bool:=x.1==y.1&&(x.2.1==y.2.1&&true)
def G0:List BU->List BU->Bool
 |[],[]=>true
 |x::l,y::m=>L5 x y&&G0 l m
 |_,_=>false
def Ev (a b:EK):Bool:=a.1==b.1&&(a.2.2.1==b.2.2.1&&G0 a.2.1 b.2.1)
def OU (a:EK):Bool:=decide (a.2.1.length<=140737488355328)
def aU:PSpec:=⟨[Dj,Dj],[.bool],λx=>OU x.1,λx=>(Ev x.1 x.2.1,())⟩
theorem OV:∀(l m:List BU),l.length≠m.length->G0 l m=false
 |[],[],h=>absurd rfl h
 |[],_::_,_=>rfl
 |_::_,[],_=>rfl
 |x::l,y::m,h=>by
  show(L5 x y&&G0 l m)=false;rw[OV l m (λe=>h (by rw[List.length_cons,List.length_cons,e])),Bool.and_false]
def QW (a b:List BU) (i:Int) (c:BO):BO:=
 bif decide (i<(a.length:Int)) then
  bif !L5 (a.getD i.toNat (DS).dflt) (b.getD i.toNat (DS).dflt) then gd [decide (i.toNat<b.length),decide (0<=i),decide (i<(b.length:Int)),decide (i.toNat<a.length),decide (0<=i),decide (i<(a.length:Int))] (bO false)
  else gd [decide (Ad .i64 (i+1)),decide (i.toNat<b.length),decide (0<=i),decide (i<(b.length:Int)),decide (i.toNat<a.length),decide (0<=i),decide (i<(a.length:Int))] c
 else bO true
end Nice
namespace Go.Proofs.YtkgejlchafionaaGreatDoor
open Tryz
open Nice Go.RowKit
abbrev UF:List (Nat×List (Nat×Sh)):=[(4,[(2,(.obj [.sym,(.dat (.pair .str (.pair .str .unit))),.sym])),(3,(.obj [.sym,(.dat (.pair .str (.pair .str .unit))),.sym])),(4,(.one .sym)),(5,(.one .sym))])]
def et (k:Nat) (n:Int) (a:List BU) (b:L8) (m:Int) (d:List BU) (c:L8) (t4:Bool) (i:Int):BO:=rH prog (AL []) (AC UF) f42 [.bool] k 0 [(2,.pointer (some ⟨11,0,none⟩)),(3,.pointer (some ⟨13,0,none⟩)),(4,.bool t4),(5,sy (.int .i64 i))] [.dat (.pair .str (.pair .str .unit)) a,.row [sy (.int .i64 n),dt 10,sy (.string (bs b))] 41 false,.dat (.pair .str (.pair .str .unit)) d,.row [sy (.int .i64 m),dt 12,sy (.string (bs c))] 41 false]
def vI (x:AA [Dj,Dj]):BO:=fO prog (AL []) (AC UF) f42 [Dj,Dj] [.bool] x
theorem qA (N:Nat) (n:Int) (a:List BU) (b:L8) (m:Int) (d:List BU) (c:L8):BV prog (AL []) (AC UF) f42 [Dj,Dj] [.bool] N ((n,a,b,()),(m,d,c,()),())=
 (bif n !=m then bO false else bif !b==c then bO false else bif (a.length:Int) !=(d.length:Int) then bO false else et N n a b m d c false 0):=by kernel_rfl
theorem qB (x:AA [Dj,Dj]):vI x=BV prog (AL []) (AC UF) f42 [Dj,Dj] [.bool] AE x:=rfl
theorem eu (k:Nat) (n:Int) (a:List BU) (b:L8) (m:Int) (d:List BU) (c:L8) (t4:Bool) (i:Int):et (k+1) n a b m d c t4 i=QW a d i (et k n a b m d c t4 (i+1)):=by kernel_rfl
theorem vJ (n:Int) (a:List BU) (b:L8) (m:Int) (d:List BU) (c:L8) (t4:Bool) (p:a.length<=140737488355328) (q:a.length=d.length):∀(r i k:Nat),a.length=i+r->r<k->et k n a b m d c t4 (i:Int)=some (G0 (a.drop i) (d.drop i),()):=by
 intro r
 induction r with
 |zero=>
  intro i k g h;obtain⟨k,rfl⟩:∃m,k=m+1:=⟨k-1,by omega⟩
  rw[eu];unfold QW;rw[Av (by omega),List.drop_eq_nil_of_le (by omega),List.drop_eq_nil_of_le (by omega)];rfl
 |succ r j=>
  intro i k g h;obtain⟨k,rfl⟩:∃m,k=m+1:=⟨k-1,by omega⟩
  have e:i<a.length:=by omega
  have f:i<d.length:=by omega
  have l:a.drop i=a.getD i (DS).dflt::a.drop (i+1):=by
   rw[List.drop_eq_getElem_cons e,List.getD_eq_getElem?_getD,List.getElem?_eq_getElem e];rfl
  have o:d.drop i=d.getD i (DS).dflt::d.drop (i+1):=by
   rw[List.drop_eq_getElem_cons f,List.getD_eq_getElem?_getD,List.getElem?_eq_getElem f];rfl
  have:=j (i+1) k (by omega) (by omega);simp only[Int.natCast_add,Int.natCast_one] at this;rw[eu];unfold QW;rw[Au (by omega),show(i:Int).toNat=i from rfl,l,o];show _=some (L5 _ _&&G0 _ _,());cases L5 (a.getD i (DS).dflt) (d.getD i (DS).dflt)
  ·rw[Bool.not_false,xT,AP f,AP (by omega),AP (by omega),AP e,AP (by omega),AP (by omega),xG];rfl
  ·rw[Bool.not_true,xF,AP (AH.2 ⟨by omega,by omega⟩),AP f,AP (by omega),AP (by omega),AP e,AP (by omega),AP (by omega),xG,this,Bool.true_and]
theorem vK:PC 42 aU:=(AN (sh:=AC UF) (AG (l:=[]) trivial) AM func42 (by kernel_rfl) (by decide)).nice λ⟨⟨n,a,b,()⟩,⟨m,d,c,()⟩,()⟩ h=>by
 have h:a.length<=140737488355328:=of_decide_eq_true h;show vI _=some (n==m&&(b==c&&G0 a d),());rw[qB,qA];unfold bne;cases n==m
 ·rfl
 ·cases b==c
  ·rfl
  ·show(bif !((a.length:Int)==(d.length:Int)) then bO false else et AE n a b m d c false 0)=some (G0 a d,());by_cases e:a.length=d.length
   ·rw[show((a.length:Int)==(d.length:Int))=true from beq_iff_eq.2 (by omega),Bool.not_true,xF];exact vJ n a b m d c false h e a.length 0 AE (by omega) (by unfold AE;omega)
   ·rw[show((a.length:Int)==(d.length:Int))=false from beq_eq_false_iff_ne.2 (by omega),Bool.not_false,xT,OV a d e];rfl
