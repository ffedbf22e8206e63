/-
  The engine, part 11: an abstract evaluator over the model's code, proved sound. No condition.
-/
import Derived.Test.YtkgejlchafionaaGreatDoorEng10
import Derived.ChangeArms
import Derived.ReadAgain
import Derived.ProofKit
import Derived.WalkKit
import Derived.OpenShut
section
noncomputable section
noncomputable section
namespace Go.Eng
open Go
def Lm:Code->List Kt->List Pl
 | .seq a b,c=>Lm a (.seq b::c)++Lm b c
 | .cond _ a b,c=>Lm a c++Lm b c
 | .block id b,c=>Lm b (.block id::c)
 | .loop b,c=>.head b c::Lm b (.loop b::c)
 | .scope b,c=>Lm b (.scope b::c)
 |_,_=>[]
def hdN (fn:Func) (n:Nat):Pl:=(Lm (Gd fn) []).getD n (.out .normal [])
def Pl.enter:Pl->Pl
 | .head b a=>.run b (.loop b::a)
 |p=>p
open Go
def H7:List (Nat×PSpec)->FuncId->Option PSpec
 |[],_=>none
 |(g,S)::r,f=>bif Nat.beq g f then some S else H7 r f
def IU (P:Program) (gl:List (Nat×List Value)):List (Nat×PSpec)->Prop
 |[]=>True
 |(g,S)::r=>Gk P gl g S/\IU P gl r
theorem H8 {P:Program} {gl:List (Nat×List Value)}:∀{l:List (Nat×PSpec)},IU P gl l->∀f S,H7 l f=some S->Gk P gl f S
 |[],_,f,S,h=>by cases h
 |(g,T)::r,b,f,S,h=>by
  simp only[H7] at h;cases a:Nat.beq g f
  ·rw[a] at h;exact H8 b.2 f S h
  ·rw[a] at h;have:=Nat.eq_of_beq_eq_true a;subst this;cases h;exact b.1
end Go.Eng
end
end
end
section
noncomputable section
noncomputable section
namespace Go.Eng
open Go
def gd {α:Type}:List Bool->Option α->Option α
 |[],r=>r
 |b::bs,r=>gd bs (bif b then r else none)
theorem KP {α:Type} {y:α}:∀{l:List Bool} {r:Option α},gd l r=some y->C5 l/\r=some y
 |[],_,h=>⟨trivial,h⟩
 |b::bs,r,h=>by
  obtain⟨c,a⟩:=KP (l:=bs) h;cases b
  ·cases a
  ·exact⟨⟨rfl,c⟩,a⟩
section
variable (P:Program) (E:Env) (call:Cb) (nt:Nat) {α:Type}
def w7:Value->Option Bool
 | .tuple a=>match a.toList with
   |[.chan (some 1),.bool b]=>some b
   |_=>none
 |_=>none
def ku (o:Oper) (s:Tr Value) (v:Value) (σ:St) (φ:Foot) (k:Tr Value->St->Foot->Option α):Option α:=
 match w7 v with
 |some b=>bif b then(match JQ nt s o.dst (.bool true) with
   |some a=>k a σ φ
   |none=>none)
  else(match JQ nt s o.dst (.bool false) with
   |some a=>k a σ φ
   |none=>none)
 |none=>match JQ nt s o.dst v with
  |some a=>k a σ φ
  |none=>none
def Ov (o:Oper) (s:Tr Value) (σ:St) (r:Option OpR) (k:Tr Value->St->Foot->Option α):Option α:=
 match r with
 |some (.val r)=>ku nt o s r.v r.σ r.φ k
 |some (.enter f args)=>match call f args σ with
  |some (v,σ1,φ)=>ku nt o s v σ1 φ k
  |none=>none
 |none=>none
def XI (s:Tr Value) (t:TypeId) (x i:Operand):Option (IntKind×Int×Nat×Value):=
 match av E.G s x,av E.G s i with
 |some v,some (.tuple a)=>match Bm (.tuple a),E.T.und t,v with
  |some (.int k n),some (.array len _),.pointer (some ⟨_,_,none⟩)=>some (k,n,len,v)
  |some (.int k n),some (.slice _),.slice (some ⟨_,_,none⟩) len _=>some (k,n,len,v)
  |_,_,_=>none
 |_,_=>none
def SS (g:Int->Option OpR) (n:Int) (K:Option OpR->Option α):Nat->Nat->Option α
 |0,_=>none
 |m+1,j=>bif n==(Int.ofNat j) then K (g (Int.ofNat j)) else SS g n K m (j+1)
def w8 (o:Oper) (s:Tr Value) (σ:St) (k:Tr Value->St->Foot->Option α):Option α:=
 match o.op with
 | .pick c a b=>match av E.G s c with
   |some (.bool t)=>bif t then Ov call nt o s σ (A6 σ (av E.G s a)) k else Ov call nt o s σ (A6 σ (av E.G s b)) k
   |_=>none
 | .indexAddr t x i=>match XI E s t x i with
   |some (d,n,len,v)=>SS (λj=>B6 (CG E.T σ t v (.int d j))) n (λr=>Ov call nt o s σ r k) len 0
   |none=>Ov call nt o s σ (Gw P E s σ o) k
 |_=>Ov call nt o s σ (Gw P E s σ o) k
def ABh (ops:List Oper) (s:Tr Value) (o:Oper):Option Bool:=
 match o.guard with
 |none=>some true
 |some (j,a)=>match VL ops j with
  |some g=>match g.dst with
   |some d=>match s.get d with
    |some (.bool b)=>some (bif a then b else !b)
    |some v=>bif nU v then some false else none
    |none=>none
   |none=>some false
  |none=>some false
theorem ABi (ops:List Oper) (s:Tr Value) (o:Oper):ABh ops s o=E4 ops s o:=by
 unfold ABh E4
 split
 ·rename_i h;rw[h]
 ·rename_i j a h;rw[h];simp only
  split
  ·rename_i g e;rw[e];simp only
   split
   ·rename_i d hd;rw[hd];simp only
    split
    ·rename_i b c;rw[c];cases a<;>cases b<;>rfl
    ·rename_i v f c;rw[c];cases v<;>first|rfl|exact absurd rfl (f _)
    ·rename_i c;rw[c]
   ·rename_i hd;rw[hd]
  ·rename_i e;rw[e]
def Yy (all:List Oper) (o:Oper) (s:Tr Value) (σ:St) (k:Tr Value->St->Foot->Option α):Option α:=
 match ABh all s o with
 |some b=>bif b then w8 P E call nt o s σ k else(match JQ nt s o.dst undef with
  |some a=>k a σ .nil
  |none=>none)
 |none=>none
def rN (all:List Oper):List Oper->Tr Value->St->(Tr Value->St->Option α)->Option α
 |[],s,σ,k=>k s σ
 |o::os,s,σ,k=>Yy P E call nt all o s σ λa σ1 _=>rN all os a σ1 k
def XJ (all:List Oper):List Oper->Tr Value->St->(Tr Value->St->List Rec->Option α)->Option α
 |[],s,σ,k=>k s σ []
 |o::os,s,σ,k=>Yy P E call nt all o s σ λa σ1 φ1=>XJ all os a σ1 λb σ2 rs=>k b σ2 (⟨φ1.trim σ.next,σ.next,σ1.next⟩::rs)
end
section
variable {P:Program} {E:Env} {call:Cb} {nt:Nat} {α:Type} {y:α}
theorem gf {v:Value} {b:Bool} (h:w7 v=some b):v=sy (.bool b):=by
 unfold w7 at h
 split at h
 ·rename_i a
  split at h
  ·rename_i d c;cases h;obtain⟨l⟩:=a;simp only at c;rw[c]
  ·cases h
 ·cases h
theorem gh {v:Value} {σ:St} (h:w7 v=none):resolve v σ=some (v,σ):=by
 cases v with
 |tuple a=>
  simp only[w7] at h;simp only[resolve]
  split at h
  ·cases h
  ·rename_i c
   split
   ·rename_i b d;exact absurd d (c b)
   ·rfl
 |_=>rfl
theorem Qt {o:Oper} {s:Tr Value} {v:Value} {σ:St} {φ:Foot} {k:Tr Value->St->Foot->Option α} (h:ku nt o s v σ φ k=some y):
  ∃u a,resolve v σ=some (u,σ)/\JQ nt s o.dst u=some a/\k a σ φ=some y:=by
 unfold ku at h
 split at h
 ·rename_i b d;rw[gf d];cases b
  ·rw[cond_false] at h
   split at h
   ·rename_i a c;exact⟨_,a,rfl,c,h⟩
   ·cases h
  ·rw[cond_true] at h
   split at h
   ·rename_i a c;exact⟨_,a,rfl,c,h⟩
   ·cases h
 ·rename_i d
  split at h
  ·rename_i a c;exact⟨v,a,gh d,c,h⟩
  ·cases h
theorem aw {o:Oper} {s:Tr Value} {σ:St} {r:Option OpR} {k:Tr Value->St->Foot->Option α} (h:Ov call nt o s σ r k=some y):
  ∃b σ' φ,k b σ' φ=some y/\((∃a,r=some (.val a)/\∃v,resolve a.v a.σ=some (v,σ')/\JQ nt s o.dst v=some b/\φ=a.φ)\/
   ∃f args v0 σ1 v,r=some (.enter f args)/\call f args σ=some (v0,σ1,φ)/\resolve v0 σ1=some (v,σ')/\JQ nt s o.dst v=some b):=by
 unfold Ov at h
 split at h
 ·rename_i a;obtain⟨u,b,c,d,e⟩:=Qt h;exact⟨b,a.σ,a.φ,e,.inl ⟨a,rfl,u,c,d,rfl⟩⟩
 ·rename_i f args
  split at h
  ·rename_i v0 σ1 φ g;obtain⟨u,b,c,d,e⟩:=Qt h;exact⟨b,σ1,φ,e,.inr ⟨f,args,v0,σ1,u,rfl,g,c,d⟩⟩
  ·cases h
 ·cases h
theorem IV {all:List Oper} {o:Oper} {s:Tr Value} {σ:St} {k:Tr Value->St->Foot->Option α} (g:E4 all s o=some true) (h:Ov call nt o s σ (Gw P E s σ o) k=some y):
  ∃a σ' φ,D9 P E call nt all o s σ=some (a,σ',φ)/\k a σ' φ=some y:=by
 obtain⟨a,σ',φ,i,j⟩:=aw h;refine⟨a,σ',φ,?_,i⟩;unfold D9;rw[g];rcases j with⟨l,b,v,c,d,e⟩|⟨f,args,v0,σ1,v,b,c,d,e⟩
 ·simp only[b,c,d,e]
 ·simp only[b,c,d,e]
theorem ax {o:Oper} {s:Tr Value} {σ:St} {c a b:Operand} {t:Bool} (d:o.op=.pick c a b) (e:av E.G s c=some (.bool t)) {r:OpR} (h:A6 σ (av E.G s (bif t then a else b))=some r):Gw P E s σ o=some r:=by
 have f:ZV E s σ o=none:=by unfold ZV;rw[d]
 have g:X9 P E s σ o=some r:=by
  unfold X9;rw[d];simp only[e];cases t<;>exact h
 unfold Gw Na;rw[f,g]
theorem Qu {all:List Oper} {o:Oper} {s:Tr Value} {σ:St} {c a b:Operand} {t:Bool} {k:Tr Value->St->Foot->Option α} (f:o.op=.pick c a b) (g:av E.G s c=some (.bool t)) (i:E4 all s o=some true)
  (h:Ov call nt o s σ (A6 σ (av E.G s (bif t then a else b))) k=some y):∃e σ' φ,D9 P E call nt all o s σ=some (e,σ',φ)/\k e σ' φ=some y:=by
 cases d:A6 σ (av E.G s (bif t then a else b)) with
 |none=>rw[d] at h;simp[Ov] at h
 |some r=>
  rw[d] at h;exact IV i (by rw[ax f g d];exact h)
theorem Ln {g:Int->Option OpR} {n:Int} {K:Option OpR->Option α}:∀{m j:Nat},SS g n K m j=some y->K (g n)=some y
 |0,_,h=>by cases h
 |m+1,j,h=>by
  unfold SS at h;cases a:n==(Int.ofNat j)
  ·rw[a,cond_false] at h;exact Ln h
  ·rw[a,cond_true] at h;have:n=Int.ofNat j:=by simpa using a
   rw[this];exact h
theorem ay {o:Oper} {s:Tr Value} {σ:St} {t:TypeId} {x i:Operand} {c:IntKind} {n:Int} {len:Nat} {v:Value} (d:o.op=.indexAddr t x i) (h:XI E s t x i=some (c,n,len,v)):
  Gw P E s σ o=B6 (CG E.T σ t v (.int c n)):=by
 unfold XI at h
 split at h
 ·rename_i v' a e f;have j:ZV E s σ o=none:=by unfold ZV;rw[d]
  have key:∀(hd:∀b,v'≠ .tuple b),Bm (.tuple a)=some (.int c n)->v'=v->Gw P E s σ o=B6 (CG E.T σ t v (.int c n)):=by
   rintro hd g rfl;have k:X9 P E s σ o=none:=by unfold X9;rw[d];simp only[e,f];rfl
   have l:DE E.T σ t v' (.tuple a)=none:=by
    unfold DE
    split
    ·exact absurd rfl (hd _)
    ·rfl
   unfold Gw Na;rw[j,k];unfold Jo;rw[d];simp only[e,f,Dy,l,g]
  split at h
  all_goals first
   |(cases h;done)
   |(rename_i g _
     simp only[Option.some.injEq,Prod.mk.injEq] at h;obtain⟨rfl,rfl,rfl,rfl⟩:=h;exact key (λb m=>by cases m) (by assumption) rfl)
 ·cases h
theorem Ow {all:List Oper} {o:Oper} {s:Tr Value} {σ:St} {k:Tr Value->St->Foot->Option α} (h:Yy P E call nt all o s σ k=some y):
  ∃e σ' φ,D9 P E call nt all o s σ=some (e,σ',φ)/\k e σ' φ=some y:=by
 unfold Yy at h
 split at h
 ·rename_i b d;rw[ABi] at d;cases b
  ·rw[cond_false] at h
   split at h
   ·rename_i e j;refine⟨e,σ,.nil,?_,h⟩;unfold D9;simp only[d,j]
   ·cases h
  ·rw[cond_true] at h;unfold w8 at h
   split at h
   ·rename_i c a b f
    split at h
    ·rename_i t g;cases t
     ·exact Qu f g d h
     ·exact Qu f g d h
    ·cases h
   ·rename_i t x i f
    split at h
    ·rename_i m n len v l;exact IV d (by rw[ay f l];exact Ln (K:=λr=>Ov call nt o s σ r k) h)
    ·exact IV d h
   ·exact IV d h
 ·cases h
theorem Qv {all:List Oper}:∀{os:List Oper} {s:Tr Value} {σ:St} {k:Tr Value->St->Option α},rN P E call nt all os s σ k=some y->
  ∃a σ' φ,HV P E call nt all os s σ=some (a,σ',φ)/\k a σ'=some y
 |[],s,σ,k,h=>⟨s,σ,.nil,rfl,h⟩
 |o::os,s,σ,k,h=>by
  obtain⟨g,σ1,φ1,b,c⟩:=Ow h;obtain⟨d,σ2,φ2,e,f⟩:=Qv c;exact⟨d,σ2,φ1.add φ2,by simp only[HV,b,e],f⟩
theorem Lo {all:List Oper}:∀{os:List Oper} {s:Tr Value} {σ:St} {k:Tr Value->St->List Rec->Option α},XJ P E call nt all os s σ k=some y->
  ∃a σ' rs,C7 P E call nt all os s σ=some (a,σ',rs)/\k a σ' rs=some y
 |[],s,σ,k,h=>⟨s,σ,[],rfl,h⟩
 |o::os,s,σ,k,h=>by
  obtain⟨g,σ1,φ1,b,c⟩:=Ow h;obtain⟨d,σ2,rs,e,f⟩:=Lo c;exact⟨d,σ2,_,by simp only[C7,b,e],f⟩
end
def St.clean (σ:St):St:=⟨σ.heap,σ.next,[],[]⟩
abbrev Ez:Type:=Code->Option (List (Nat×Sh))
abbrev gi (α:Type):Type:=Code->List Kt->List (Nat×Value)->List AO->Option α
section
variable (P:Program) (E:Env) (pins:List Nat) (sh:Ez) {α:Type} (rec:gi α) (fin:Exit->Tr Value->St->Option α) (m nt:Nat)
def zc:Nat->Pl->Tr Value->St->Option α
 |0,_,_,_=>none
 |n+1,.run c a,s,σ=>match c with
  | .skip=>zc n (.out .normal a) s σ
  | .label _=>zc n (.out .normal a) s σ
  | .ret=>zc n (.out .ret a) s σ
  | .exit id=>zc n (.out (.exit id) a) s σ
  | .goto l=>zc n (.out (.goto l) a) s σ
  | .region _ ops false=>rN P E (Ke P E m) nt ops.toList ops.toList s σ.clean λh σ'=>gd σ'.pc (zc n (.out .normal a) h σ'.clean)
  | .region _ ops true=>XJ P E (Ke P E m) nt ops.toList ops.toList s σ.clean λh σ' recs=>bif HZ ops ops.toList recs [] ops.toList recs then gd σ'.pc (zc n (.out .normal a) h σ'.clean) else none
  | .seq u v=>zc n (.run u (.seq v::a)) s σ
  | .cond c u v=>match av E.G s c with
    |some (.bool b)=>bif b then zc n (.run u a) s σ else zc n (.run v a) s σ
    |_=>none
  | .block id b=>zc n (.run b (.block id::a)) s σ
  | .loop b=>zc n (.head b a) s σ
  | .scope b=>zc n (.run b (.scope b::a)) s σ
  |_=>none
 |n+1,.head b a,s,σ=>match sh b with
  |some i=>match gF E pins i s σ with
   |some (l,objs)=>rec b a l objs
   |none=>none
  |none=>zc n (.run b (.loop b::a)) s σ
 |_+1,.out e [],s,σ=>fin e s σ
 |n+1,.out e (k::a),s,σ=>match k with
  | .seq d=>match e with
    | .normal=>zc n (.run d a) s σ
    |e=>zc n (.out e a) s σ
  | .block id=>match e with
    | .exit f=>bif Nat.beq f id then zc n (.out .normal a) s σ else zc n (.out (.exit f) a) s σ
    |e=>zc n (.out e a) s σ
  | .loop b=>match e with
    | .normal=>zc n (.head b a) s σ
    |e=>zc n (.out e a) s σ
  | .scope b=>match e with
    | .goto l=>match findLabel b l with
      |some g=>zc n (.run g (.scope b::a)) s σ
      |none=>zc n (.out (.goto l) a) s σ
    |e=>zc n (.out e a) s σ
def zG (N n:Nat):gi α:=
 Nat.rec (λ_ _ _ _=>none) (λ_ a b c l objs=>zc P E pins sh a fin m nt N (.run b (.loop b::c)) (kh l) (L7 E objs [])) n
end
section
variable {P:Program} {E:Env} (hE:E.OK P) {pin:List (Nat×Reg)} {sh:Ez} {α:Type} {rec:gi α} {fin:Exit->Tr Value->St->Option α} {m nt:Nat} {y:α} {Q:World->Exit->Act->World->Prop} {own0 z0:World->Nat->Prop}
 (hfin:∀e s σ,fin e s σ=some y->At P E nt pin Q own0 z0 (.out e []) s σ)
theorem gj {p:Pl} {s:Tr Value} {σ:St} (h:At P E nt pin Q own0 z0 p s σ.clean):At P E nt pin Q own0 z0 p s σ:=h
include hE hfin
theorem F3 (q:∀b F l objs,rec b F l objs=some y->At P E nt pin Q own0 z0 (.head b F) (kh l) (L7 E objs [])):
  ∀(n:Nat) (p:Pl) (s:Tr Value) (σ:St),zc P E (pin.map (·.1)) sh rec fin m nt n p s σ=some y->At P E nt pin Q own0 z0 p s σ
 |0,p,s,σ,h=>by simp[zc] at h
 |n+1,.run c F,s,σ,h=>by
  have g:=F3 q n;have hC:CallSound P E (Ke P E m):=JZ hE m;cases c with
  |skip=>exact λw0 a w d=>wp_skip (g _ _ _ h w0 a w d)
  |label l=>exact λw0 a w d=>wp_label (g _ _ _ h w0 a w d)
  |ret=>exact λw0 a w d=>wp_ret (g _ _ _ h w0 a w d)
  |exit id=>exact λw0 a w d=>wp_exit (g _ _ _ h w0 a w d)
  |goto l=>exact λw0 a w d=>wp_goto (g _ _ _ h w0 a w d)
  |region id ops M=>
   refine gj ?_;cases M with
   |false=>
    simp only[zc] at h;obtain⟨s1,σ1,φ1,S,B⟩:=Qv h;obtain⟨x,B⟩:=KP B;obtain⟨T,a2,a3⟩:=HX hE hC ops.toList 0 _ _ _ _ _ S λj _=>by simp
    refine λw0 a w d=>wp_region ?_
    obtain⟨D,ι,i,I,N,J,hall,K,U,V,W,X,Y,Z,q7⟩:=d;have:=a3 i x D ι w a (cH P F (Q w0)) i I (λid O hx=>by have:=N id hx;simp only[St.rng] at O;omega) J (hall.on _) λι' w' a' g1 g2 g3=>
     g _ _ _ B w0 a' w' (Jc.step i I N hall K U V W X Y Z q7 T (a2 i).1 g1 g2 g3)
    rw[List.range_eq_range'];simpa using this
   |true=>
    simp only[zc] at h;obtain⟨s1,σ1,recs,S,B⟩:=Lo h;cases r:HZ ops ops.toList recs [] ops.toList recs
    ·rw[r] at B;cases B
    rw[r,cond_true] at B;obtain⟨x,B⟩:=KP B;obtain⟨T,a2,a3⟩:=JV hE hC S r;refine λw0 a w d=>wp_region_any hE.mixed ?_
    obtain⟨D,ι,i,I,N,J,hall,K,U,V,W,X,Y,Z,q7⟩:=d;have A:HAll P D ι σ.clean.H { w with drawn:=w.drawn+1}:=⟨hall.hd,hall.ce,hall.inj⟩
    exact a3 x D ι _ a (cH P F (Q w0)) i I (λid O hx=>by have:=N id hx;simp only[St.rng] at O;omega) J (A.on _) λι' w' a' g1 g2 g3=>
     g _ _ _ B w0 a' w' (Jc.step (w:={ w with drawn:=w.drawn+1}) i I N A K U V W X Y Z q7 T (a2 i).1 g1 g2 g3)
  |seq u v=>exact λw0 a w d=>wp_seq (g _ _ _ h w0 a w d)
  |cond C u v=>
   simp only[zc] at h;have R:∀b,av E.G s C=some (.bool b)->∀w0 a w,Jc P E nt pin w0 (own0 w0) (z0 w0) s σ a w->a.eval C=.bool b:=by
    rintro b r w0 a w ⟨D,ι,_,I,_,d,_⟩;have O:YA E.G D ι s a.eval C:=VM I.b λt _ v hv=>(d.2 t v hv).2
    have:=O _ r;generalize a.eval C=z at this;cases this;rfl
   split at h
   ·rename_i b r;cases b
    ·exact λw0 a w d=>wp_cond_false (R _ r w0 a w d) (g _ _ _ h w0 a w d)
    ·exact λw0 a w d=>wp_cond_true (R _ r w0 a w d) (g _ _ _ h w0 a w d)
   ·cases h
  |block id b=>exact λw0 a w d=>wp_block (g _ _ _ h w0 a w d)
  |loop b=>exact λw0 a w d=>M4 (g _ _ _ h w0 a w d)
  |scope b=>exact λw0 a w d=>LI (ABD (g _ _ _ h w0 a w d))
  |rangeFunc f ps as b=>simp[zc] at h
  |refuse why=>simp[zc] at h
 |n+1,.head b F,s,σ,h=>by
  have g:=F3 q n;simp only[zc] at h
  split at h
  ·split at h
   ·rename_i l objs R;exact λw0 a w d=>q _ _ _ _ h w0 a w (Up hE R d)
   ·cases h
  ·exact λw0 a w d=>RJ (g _ _ _ h w0 a w d)
 |n+1,.out e [],s,σ,h=>hfin e s σ h
 |n+1,.out e (k::F),s,σ,h=>by
  have g:=F3 q n;simp only[zc] at h
  split at h
  ·split at h
   ·exact λw0 a w d=>g _ _ _ h w0 a w d
   ·rename_i o;intro w0 a w d;have:=g _ _ _ h w0 a w d;cases e<;>first|exact this|exact absurd rfl o
  ·split at h
   ·rename_i id _ L;cases r:Nat.beq L id
    ·rw[r,cond_false] at h;have hne:L≠id:=λe=>by rw[Cc e] at r;cases r
     intro w0 a w d;show Exit.inBlock id _ (.exit L) a w;simp only[Exit.inBlock,hne,if_false];exact g _ _ _ h w0 a w d
    ·rw[r,cond_true] at h;have he:=Nat.eq_of_beq_eq_true r;subst he;intro w0 a w d;show Exit.inBlock _ _ (.exit _) a w;simp only[Exit.inBlock,if_true];exact g _ _ _ h w0 a w d
   ·rename_i o;intro w0 a w d;have:=g _ _ _ h w0 a w d;cases e<;>first|exact this|exact absurd rfl (o _)
  ·split at h
   ·exact λw0 a w d=>g _ _ _ h w0 a w d
   ·rename_i o;intro w0 a w d;have:=g _ _ _ h w0 a w d;cases e<;>first|exact this|exact absurd rfl o
  ·split at h
   ·rename_i b _ l
    split at h
    ·rename_i rest hf;intro w0 a w d;show Exit.inScope P _ _ (.goto l) a w;simp only[Exit.inScope,hf];exact ABD (g _ _ _ h w0 a w d)
    ·rename_i hf;intro w0 a w d;show Exit.inScope P _ _ (.goto l) a w;simp only[Exit.inScope,hf];exact g _ _ _ h w0 a w d
   ·rename_i o;intro w0 a w d;have:=g _ _ _ h w0 a w d;cases e<;>first|exact this|exact absurd rfl (o _)
theorem Ox {N:Nat}:∀(n:Nat) (b:Code) (c:List Kt) (l:List (Nat×Value)) (objs:List AO),zG P E (pin.map (·.1)) sh fin m nt N n b c l objs=some y->At P E nt pin Q own0 z0 (.head b c) (kh l) (L7 E objs [])
 |0,_,_,_,_,h=>by cases h
 |n+1,b,c,l,objs,h=>λw0 a w d=>RJ (F3 hE hfin (Ox n) N (.run b (.loop b::c)) (kh l) (L7 E objs []) h w0 a w d)
end
def gk:(ts:List Ty)->AA ts
 |[]=>()
 |t::ts=>(t.dflt,gk ts)
def w9 (ts rs:List Ty) (g:AA ts->Option (AA rs)):PSpec:=⟨ts,rs,λx=>(g x).isSome,λx=>(g x).getD (gk rs)⟩
def gm (E:Env) (fn:Func) (rs:List Ty) (e:Exit) (s:Tr Value) (σ:St):Option (AA rs):=
 match qp E fn rs (.out e [],s,σ) with
 |some (y,a)=>gd a (some y)
 |none=>none
def AE:Nat:=1606938044258990275541962092341162602522202993782792835301376
def BV (P:Program) (E:Env) (sh:Ez) (fn:Func) (ts rs:List Ty) (N:Nat) (x:AA ts):Option (AA rs):=
 match EM (IW ts x) (Bg E) with
 |(vs,σ)=>zc P E [] sh (zG P E [] sh (gm E fn rs) 1000 fn.ntmps 1000 N) (gm E fn rs) 1000 fn.ntmps 1000 (.run (Gd fn) []) (ES 0 (Zh ts vs) .lf) σ
def fO (P:Program) (E:Env) (sh:Ez) (fn:Func) (ts rs:List Ty) (x:AA ts):Option (AA rs):=BV P E sh fn ts rs AE x
def rO (P:Program) (E:Env) (sh:Ez) (fn:Func) (rs:List Ty) (n:Nat):gi (AA rs):=zG P E [] sh (gm E fn rs) 1000 fn.ntmps 1000 n
section
variable {P:Program} {E:Env} (hE:E.OK P)
include hE
theorem Yz {nt:Nat} {fz0:Nat->Option (Array Value)} {fn:Func} {rs:List Ty} {y:AA rs} (e:Exit) (s:Tr Value) (σ:St) (h:gm E fn rs e s σ=some y):
  At P E nt [] (QP P fn rs y fz0) (λ_ _=>False) (λ_ b=>∃c,fz0 b=some c) (.out e []) s σ:=by
 unfold gm at h
 split at h
 ·rename_i g i a;obtain⟨d,f⟩:=KP h;cases f;exact kd hE a d
 ·cases h
theorem AN (b:∀p,p∈E.gl->p.2≠[]) {sh:Ez} {ts rs:List Ty} {f:FuncId} {fn:Func} (c:P.funcs[f]?=some fn) (a:fn.body.isSome=true) (d:ts.length<=fn.ntmps):Gk P E.gl f (w9 ts rs (fO P E sh fn ts rs)):=by
 obtain⟨body,a⟩:=Option.isSome_iff_exists.1 a;refine kf hE b c a d λx e fz0=>⟨[],?_⟩
 have e:(fO P E sh fn ts rs x).isSome=true:=e;obtain⟨y,h⟩:=Option.isSome_iff_exists.1 e;have i:(w9 ts rs (fO P E sh fn ts rs)).g x=y:=by show(fO P E sh fn ts rs x).getD _=y;rw[h];rfl
 rw[i];rw[show body=Gd fn by simp only[Gd,a]];exact F3 hE (pin:=[]) (Yz hE) (Ox hE (pin:=[]) (Yz hE) AE) 1000 _ _ _ h
end
theorem Gk.nice {P:Program} {gl:List (Nat×List Value)} {f:FuncId} {ts rs:List Ty} {g:AA ts->Option (AA rs)} (h:Gk P gl f (w9 ts rs g)) {pre:AA ts->Bool} {n:AA ts->AA rs} (d:∀x,pre x=true->g x=some (n x)):Gk P gl f ⟨ts,rs,pre,n⟩:=by
 intro fz w args x i b c a;have a:pre x=true:=a;have e:=d x a;have:=h fz w args x i b c (by show(g x).isSome=true;rw[e];rfl);have j:(w9 ts rs g).g x=n x:=by show(g x).getD _=n x;rw[e];rfl
 rw[j] at this;exact this
open Go
def tyE (T:TE):Nat->TypeId->Option Ty
 |0,_=>none
 |n+1,t=>match T.und t with
  |some (.int .u8)=>some .byte
  |some (.int k)=>some (.int k)
  |some .bool=>some .bool
  |some .string=>some .str
  |some (.slice e)=>match tyE T n e with
   |some a=>some (.slice a)
   |none=>none
  |some (.struct c)=>c.toList.foldr (λf r=>match tyE T n f.type,r with
   |some a,some b=>some (.pair a b)
   |_,_=>none) (some .unit)
  |_=>none
def H9:Code->Option Nat
 | .region id _ _=>some id
 | .seq a b=>match H9 a with
   |some i=>some i
   |none=>H9 b
 | .cond _ a b=>match H9 a with
   |some i=>some i
   |none=>H9 b
 | .block _ b=>H9 b
 | .loop b=>H9 b
 | .scope b=>H9 b
 |_=>none
def ABw {α:Type}:List (Nat×α)->Nat->Option α
 |[],_=>none
 |(j,x)::r,i=>bif Nat.beq i j then some x else ABw r i
def AC (l:List (Nat×List (Nat×Sh))):Ez:=λb=>match H9 b with
 |some i=>ABw l i
 |none=>none
def rP {α:Type} (r:gi α):Pl->List (Nat×Value)->List AO->Option α
 | .head b a,l,o=>r b a l o
 |_,_,_=>none
def rH (P:Program) (E:Env) (sh:Ez) (fn:Func) (rs:List Ty) (n k:Nat) (l:List (Nat×Value)) (objs:List AO):Option (AA rs):=rP (rO P E sh fn rs n) (hdN fn k) l objs
end Go.Eng
end
end
end
section
noncomputable section
noncomputable section
namespace Go.Eng
open Go
def Lp:Nat:=140737488355328
def Bd:(t:Ty)->t.Den->Prop
 | .int k,n=>Ad k n
 | .str,s=>s.length<=Lp
 | .pair a b,x=>Bd a x.1/\Bd b x.2
 | .slice a,c=>c.length<=Lp/\∀x,x∈c->Bd a x
 |_,_=>True
def xA:(ts:List Ty)->AA ts->Prop
 |[],_=>True
 |t::ts,x=>Bd t x.1/\xA ts x.2
def Uy (g:TypeId->Option Ty):List Field->Nat->Option Ty
 |[],_=>some .unit
 |f::r,o=>match g f.type with
  |some a=>bif Nat.beq f.offset o then(match Uy g r (o+a.sz) with
   |some b=>some (.pair a b)
   |none=>none) else none
  |none=>none
def F4 (a:Ty):Nat->Ty
 |0=>.unit
 |n+1=>.pair a (F4 a n)
def gn (T:TE):Nat->TypeId->Option Ty
 |0,_=>none
 |n+1,t=>match T.und t,T.inf t with
  |some d,some i=>match d with
   | .bool=>bif Nat.beq i.size 1 then some .bool else none
   | .int .u8=>bif Nat.beq i.size 1 then some .byte else none
   | .int k=>bif Nat.beq i.size 1 then some (.int k) else none
   | .string=>bif Nat.beq i.size 1 then some .str else none
   | .slice e=>match gn T n e,T.inf e with
     |some a,some j=>bif Nat.beq i.size 1&&(!Nat.beq j.bytes 0&& !Nat.beq a.sz 0) then some (.slice a) else none
     |_,_=>none
   | .struct b=>match Uy (gn T n) b.toList 0 with
     |some a=>bif Nat.beq a.sz i.size then some a else none
     |none=>none
   | .array q e=>match gn T n e with
     |some a=>bif Nat.beq (F4 a q).sz i.size then some (F4 a q) else none
     |none=>none
   |_=>none
  |_,_=>none
theorem az (a:Ty) (n:Nat):(F4 a n).agg=true:=by cases n<;>rfl
theorem Uz (a:Ty):∀n,(F4 a n).sz=n*a.sz
 |0=>by simp[F4,Ty.sz]
 |n+1=>by simp only[F4,Ty.sz,Uz a n,Nat.succ_mul];omega
def SW (w:World) (b:Nat):Option (Array Value):=match w.heap[b]? with
 |some (.cells c _ _)=>some c
 |_=>none
theorem rQ (w:World):Bs (SW w) w:=by
 intro b c h;unfold SW at h
 split at h
 ·rename_i d e fr a;cases h;exact⟨e,fr,a⟩
 ·cases h
section
variable {P:Program} {T:TE} (hT:T.OK P) {w:World} {sp:Nat->Bool} {held:Bool} {H:Type} {enc:TypeId×Value->H}
include hT
theorem IA {t:TypeId} {i:TypeInfo} (h:T.inf t=some i):P.cellsOf t=i.size:=by
 unfold Program.cellsOf;rw[hT.inf t i h];rfl
theorem U0 {t:TypeId} {i:TypeInfo} (h:T.inf t=some i):P.bytesOf t=i.bytes:=by
 unfold Program.bytesOf;rw[hT.inf t i h];rfl
theorem XK:∀{n:Nat} {t:TypeId} {a:Ty},gn T n t=some a->P.cellsOf t=a.sz
 |0,_,_,h=>by cases h
 |n+1,t,a,h=>by
  simp only[gn] at h
  split at h
  ·rename_i d i hd c;rw[IA hT c];simp only[Bool.cond_eq_ite] at h
   split at h
   all_goals try (split at h<;>first|(rename_i b;cases h;exact Nat.eq_of_beq_eq_true b)|cases h)
   ·split at h
    ·split at h
     ·rename_i b;cases h;rw[Bool.and_eq_true] at b;exact Nat.eq_of_beq_eq_true b.1
     ·cases h
    ·cases h
   ·split at h
    ·split at h
     ·rename_i b;cases h;exact(Nat.eq_of_beq_eq_true b).symm
     ·cases h
    ·cases h
   ·split at h
    ·split at h
     ·rename_i b;cases h;exact(Nat.eq_of_beq_eq_true b).symm
     ·cases h
    ·cases h
   ·cases h
  ·cases h
omit hT in
theorem KQ {b n:Nat} {a:Addr} {d:List Value} (h:w.cells? b a n=some d) (m:0<n):∃c,SW w a.block=some c/\a.spot=none/\a.off+n<=c.size/\d=(c.toList.drop a.off).take n:=by
 unfold World.cells? at h
 split at h
 ·have p:=mapM_some_length h;simp only[List.length_range] at p;obtain⟨blk,off,spot⟩:=a;have j:∀i,i<n->w.cell? (Addr.add ⟨blk,off,spot⟩ i)=d[i]?:=λi f=>mapM_some_get h i i (by simp[f])
  have k:w.cell? ⟨blk,off,spot⟩=d[0]?:=by
   have:=j 0 m;simpa[Addr.add] using this
  have r:spot=none:=by
   rw[List.getElem?_eq_getElem (show 0<d.length by omega)] at k;simp only[World.cell?] at k
   split at k
   ·cases spot with
    |none=>rfl
    |some q=>simp at k
   ·cases k
  subst r;have j:∀i,i<n->w.cell? ⟨blk,off+i,none⟩=d[i]?:=λi f=>by have:=j i f;rwa[BF] at this
  cases l:w.heap[blk]? with
  |none=>
   have:=j 0 m;simp only[World.cell?,l] at this;rw[List.getElem?_eq_getElem (by omega)] at this;simp at this
  |some o=>
   cases o with
   |cells c e fr=>
    have key:∀i,i<n->c[off+i]?=d[i]?:=λi f=>by
     have:=j i f;simpa[World.cell?,l] using this
    have g:off+n<=c.size:=by
     have:=key (n-1) (by omega);rw[List.getElem?_eq_getElem (by omega)] at this;rcases Nat.lt_or_ge (off+(n-1)) c.size with h|h
     ·omega
     ·rw[Array.getElem?_eq_none h] at this;cases this
    refine⟨c,by simp[SW,l],rfl,g,?_⟩;apply List.ext_getElem?;intro i;rw[List.getElem?_take]
    split
    ·rename_i f;rw[List.getElem?_drop];exact(key i f).symm.trans (Array.getElem?_toList).symm
    ·rw[List.getElem?_eq_none (by omega)]
   |_=>
    have:=j 0 m;simp only[World.cell?,l] at this;rw[List.getElem?_eq_getElem (by omega)] at this;simp at this
 ·cases h
theorem Y0:∀(m:Nat) (t:TypeId) (a:Ty),gn T m t=some a->∀(n:Nat) (D:List Value) (x:DataW H×List MemPlace),DataW.trod enc P w 0 (λ_=>true) held n t D=some x->(∀z,z∈x.1.weights P t->z<=reachBytes)->
  ∃y:a.Den,Bj (SW w) a y D/\Bd a y
 |0,_,_,h,_,_,_,_,_=>by cases h
 |m+1,t,a,h,n,D,x,J,L=>by
  have ih:=Y0 m;simp only[gn] at h
  split at h
  ·rename_i d i hd hi;have B:=hT.und t d hd
   split at h
   ·cases p:Nat.beq i.size 1<;>rw[p] at h<;>cases h;obtain⟨b,rfl, -⟩:=DataW.trod_bool B J;exact⟨b,rfl,trivial⟩
   ·cases p:Nat.beq i.size 1<;>rw[p] at h<;>cases h;obtain⟨k,rfl, -,E⟩:=DataW.trod_int B J;simp only[Lit.wf,Bool.and_eq_true,decide_eq_true_eq] at E;have v:Ad .u8 k:=E;exact⟨UInt8.ofNat k.toNat,by simp only[Bj];rw[<-ML v],trivial⟩
   ·cases p:Nat.beq i.size 1<;>rw[p] at h<;>cases h;obtain⟨k,rfl, -,E⟩:=DataW.trod_int B J;simp only[Lit.wf,Bool.and_eq_true,decide_eq_true_eq] at E;exact⟨k,rfl,E⟩
   ·cases p:Nat.beq i.size 1<;>rw[p] at h<;>cases h;obtain⟨s,rfl,rfl, -⟩:=DataW.trod_string B J;refine⟨C8 s,by simp only[Bj,Iy],?_⟩;have:=L s.data.toList.length (by simp[DataW.weights]);have h2:reachBytes<=Lp:=by decide
    exact Nat.le_trans this h2
   ·rename_i e
    split at h
    ·rename_i c j O hj;cases p:(Nat.beq i.size 1&&(!Nat.beq j.bytes 0&& !Nat.beq c.sz 0))<;>rw[p] at h<;>cases h;rw[Bool.and_eq_true,Bool.and_eq_true] at p;have hbytes:j.bytes≠0:=λe=>by rw[Cc e] at p;cases p.2.1
     have I:0<c.sz:=Nat.pos_of_ne_zero λe=>by rw[Cc e] at p;cases p.2.2
     have Q:=XK hT O;rcases DataW.trod_slice B J with⟨rfl, -⟩|⟨ad,len,cap,A,rest,n',rfl,rfl,rfl, -,hlc, -,hel,hes, -, -⟩
     ·exact⟨[],⟨_,rfl,.inl ⟨⟨_,_,rfl⟩,rfl⟩⟩,by simp[Lp],λx h=>by cases h⟩
     ·simp only[DataW.weights,B] at L;have C:len<=Lp:=by
       have:=L _ (List.mem_cons_self ..);rw[U0 hT hj] at this;have h2:reachBytes<=Lp:=by decide
       have h3:(A.map (·.1)).length=len:=by simpa using hel
       have h4:len*1<=((A.map (·.1)).length+(rest.map (·.1)).length)*j.bytes:=Nat.mul_le_mul (by omega) (by omega);omega
      have R:∀(k:Nat) (z:DataW H×List MemPlace),A[k]?=some z->∀u,u∈z.1.weights P e->u<=reachBytes:=λk z v u B=>L u (by
       refine List.mem_cons_of_mem _ (List.mem_append_left _ ?_);have hmem:z.1∈A.map (·.1):=List.mem_map.2 ⟨z,List.mem_of_getElem? v,rfl⟩;have S:∀(l:List (DataW H)) d,d∈l->u∈d.weights P e->u∈DataW.weightsAll P e l:=by
        intro l
        induction l with
        |nil=>intro d h;cases h
        |cons d' l U=>
         intro d h B;simp only[DataW.weightsAll,List.mem_append];rcases List.mem_cons.1 h with rfl|h
         ·exact .inl B
         ·exact .inr (U d h B)
       exact S _ _ hmem B)
      have M:∀k,k<len->∃y:c.Den,∃D,w.cells? 0 (ad.add (k*P.cellsOf e)) (P.cellsOf e)=some D/\Bj (SW w) c y D/\Bd c y:=λk v=>by
       have h1:=hes k v;rw[List.getElem?_eq_getElem (by omega)] at h1;obtain⟨D,h2,h3⟩:=Option.bind_eq_some_iff.1 h1;obtain⟨y,h4,h5⟩:=ih e c O n' D _ h3 (R k _ (List.getElem?_eq_getElem (by omega)));exact⟨y,D,h2,h4,h5⟩
      by_cases h0:len=0
      ·subst h0;exact⟨[],⟨_,rfl,.inl ⟨⟨_,_,rfl⟩,rfl⟩⟩,by simp[Lp],λx h=>by cases h⟩
      ·classical
       let f:Nat->c.Den:=λk=>if v:k<len then Classical.choose (M k v) else c.dflt
       have V:∀k,k<len->∃D,w.cells? 0 (ad.add (k*P.cellsOf e)) (P.cellsOf e)=some D/\Bj (SW w) c (f k) D/\Bd c (f k):=λk v=>by
        have:=Classical.choose_spec (M k v);simp only[f,dif_pos v];exact this
       refine⟨(List.range len).map f,?_,by simpa using C,λx J=> ?_⟩
       ·refine⟨_,rfl,.inr ?_⟩;obtain⟨blk,off,spot⟩:=ad;rw[Q] at V;have W:spot=none:=by
         obtain⟨cs0,c1,c2, -⟩:=V 0 (by omega);obtain⟨F,d1,d2, -, -⟩:=KQ c1 I;simpa[Addr.add] using d2
        subst W;simp only[BF] at V;obtain⟨cs0,c1,c2, -⟩:=V 0 (by omega);obtain⟨F,d1, -, -, -⟩:=KQ c1 I;have d1:SW w blk=some F:=d1;refine⟨blk,off,cap,F,by simp,d1,?_,by simpa using hlc,λk y v=> ?_⟩
        ·obtain⟨cs1,e1, -⟩:=V (len-1) (by omega);obtain⟨G,f1, -,f2, -⟩:=KQ e1 I;have f1:SW w blk=some G:=f1;rw[d1] at f1;cases f1;have f2:off+(len-1)*c.sz+c.sz<=F.size:=f2;have:len*c.sz=(len-1)*c.sz+c.sz:=by
          conv=>lhs;rw[show len=(len-1)+1 by omega,Nat.succ_mul]
         simp only[List.length_map,List.length_range];omega
        ·have hkl:k<len:=by have:=EL v;simpa using this
         simp only[List.getElem?_map,List.getElem?_range hkl,Option.map_some,Option.some.injEq] at v;subst v;obtain⟨cs1,e1,e2, -⟩:=V k hkl;obtain⟨G,f1, -, -,f3⟩:=KQ e1 I;have f1:SW w blk=some G:=f1;rw[d1] at f1;cases f1;have f3:cs1=(F.toList.drop (off+k*c.sz)).take c.sz:=f3;rw[<-f3];exact e2
       ·obtain⟨k,v,rfl⟩:=List.mem_map.1 J;obtain⟨-, -, -,h⟩:=V k (List.mem_range.1 v);exact h
    ·cases h
   ·rename_i fs
    split at h
    ·rename_i c O;cases p:Nat.beq c.sz i.size<;>rw[p] at h<;>cases h;have p:=Nat.eq_of_beq_eq_true p;obtain⟨xs,n',rfl,rfl,hl,hxl,X⟩:=DataW.trod_struct B J;rw[IA hT hi,<-p] at hl;simp only[DataW.weights,B] at L;have key:∀(Y:List Field) (o:Nat) (b:Ty) (N:List (DataW H×List MemPlace)),Uy (gn T m) Y o=some b->N.length=Y.length->(∀(k:Nat) f,Y[k]?=some f->DataW.trod enc P w 0 (λ_=>true) held n' f.type ((D.drop f.offset).take (P.cellsOf f.type))=N[k]?)->
       (∀z,z∈DataW.weightsEach P (Y.map (·.type)) (N.map (·.1))->z<=reachBytes)->D.length=o+b.sz->∃y:b.Den,Bj (SW w) b y (D.drop o)/\Bd b y:=by
      intro Y
      induction Y with
      |nil=>
       intro o b N g _ _ _ C;simp only[Uy,Option.some.injEq] at g;subst g;exact⟨(),by simp only[Bj];exact List.drop_of_length_le (by simp only[Ty.sz] at C;omega),trivial⟩
      |cons f Y ihf=>
       intro o b N g hyl hys Z C;simp only[Uy] at g
       split at g
       ·rename_i a1 ha1;cases K:Nat.beq f.offset o<;>rw[K] at g
        ·cases g
        rw[cond_true] at g;have K:=Nat.eq_of_beq_eq_true K
        split at g
        ·rename_i b1 hb1;cases g;cases N with
         |nil=>simp at hyl
         |cons y0 N=>
          have h0:=hys 0 f rfl;rw[K,XK hT ha1] at h0;simp only[Ty.sz] at C;simp only[List.map_cons,DataW.weightsEach,List.mem_append] at Z;obtain⟨u1,q1,q2⟩:=ih f.type a1 ha1 n' _ y0 h0 λz I=>Z z (.inl I)
          obtain⟨u2,q3,q4⟩:=ihf (o+a1.sz) b1 N hb1 (by simpa using hyl) (λk f' v=>by simpa using hys (k+1) f' (by simpa using v)) (λz I=>Z z (.inr I)) (by omega);refine⟨(u1,u2),⟨_,_,?_,q1,q3⟩,q2,q4⟩;rw[<-List.drop_drop];exact(List.take_append_drop _ _).symm
        ·cases g
       ·cases g
     have:=key fs.toList 0 a xs O (by simpa using hxl) (λk f v=>X k f (by simpa using v)) (by simpa using L) (by omega);simpa using this
    ·cases h
   ·rename_i q e
    split at h
    ·rename_i c O;cases p:Nat.beq (F4 c q).sz i.size<;>rw[p] at h<;>cases h;have p:=Nat.eq_of_beq_eq_true p;obtain⟨xs,n',rfl,rfl,hl,hxl,X⟩:=DataW.trod_array B J;rw[IA hT hi,<-p,Uz] at hl;simp only[DataW.weights,B] at L;have Q:=XK hT O;have R:∀(z:DataW H×List MemPlace),z∈xs->∀u,u∈z.1.weights P e->u<=reachBytes:=λz I u hu'=>L u (by
      have S:∀(l:List (DataW H)) d,d∈l->u∈d.weights P e->u∈DataW.weightsAll P e l:=by
       intro l
       induction l with
       |nil=>intro d h;cases h
       |cons d' l U=>
        intro d h B;simp only[DataW.weightsAll,List.mem_append];rcases List.mem_cons.1 h with rfl|h
        ·exact .inl B
        ·exact .inr (U d h B)
      exact S _ _ (List.mem_map.2 ⟨z,I,rfl⟩) hu')
     have key:∀(r o:Nat),o+r=q->∃y:(F4 c r).Den,Bj (SW w) (F4 c r) y (D.drop (o*c.sz))/\Bd (F4 c r) y:=by
      intro r
      induction r with
      |zero=>
       intro o ho;refine⟨(),?_,trivial⟩;simp only[F4,Bj];exact List.drop_of_length_le (by rw[hl,<-ho,Nat.add_zero];exact Nat.le_refl _)
      |succ r ihr=>
       intro o ho;have h1:=X o (by omega);rw[Q,List.getElem?_eq_getElem (show o<xs.length by omega)] at h1;obtain⟨u1,q1,q2⟩:=ih e c O n' _ _ h1 (R _ (List.getElem_mem _));obtain⟨u2,q3,q4⟩:=ihr (o+1) (by omega);refine⟨(u1,u2),⟨_,_,?_,q1,q3⟩,q2,q4⟩;rw[Nat.succ_mul,<-List.drop_drop];exact(List.take_append_drop _ _).symm
     have:=key q 0 (by omega);simpa using this
    ·cases h
   ·cases h
  ·cases h
def ABj (T:TE) (m:Nat):List TypeId->Option (List Ty)
 |[]=>some []
 |t::ts=>match gn T m t,ABj T m ts with
  |some a,some as=>some (a::as)
  |_,_=>none
omit hT in
theorem gp {g:TypeId->Option Ty}:∀{b:List Field} {o:Nat} {a:Ty},Uy g b o=some a->a.agg=true
 |[],o,a,h=>by simp only[Uy,Option.some.injEq] at h;subst h;rfl
 |f::r,o,a,h=>by
  simp only[Uy,Bool.cond_eq_ite] at h
  repeat' split at h
  all_goals first|(cases h;rfl)|cases h
theorem rR {m:Nat} {t:TypeId} {a:Ty} (b:gn T m t=some a) {v:Value} {base:Nat} (g:Value.okWide P w .any base t v) {d:DataW H} {B:List MemPlace} (h:DataW.Trod enc P w 0 (λ_=>true) held t v d B) (C:∀z,z∈d.weights P t->z<=reachBytes):
  ∃y:a.Den,mT (SW w) a y v/\Bd a y:=by
 obtain⟨n,D⟩:=h;obtain⟨y,o,E⟩:=Y0 hT m t a b n _ _ D C;refine⟨y,?_,E⟩;cases m with
 |zero=>cases b
 |succ m=>
  simp only[gn] at b
  split at b
  ·rename_i x i hd G;have A:=hT.und t x hd;unfold Value.okWide at g;rw[A] at g;have one:(∀j,v≠ .agg j)->a.agg=false->mT (SW w) a y v:=λp r=>by
    have:v.cells.toList=[v]:=by cases v<;>first|rfl|exact absurd rfl (p _)
    rw[this] at o;exact .inr ⟨r,o⟩
   have c:∀(k:TypeDesc),k=x->(∀F,k≠ .struct F)->(∀n e,k≠ .array n e)->Cell.okWide P w .any base t v->∀j,v≠ .agg j:=by
    rintro k rfl _ _ s j rfl;unfold Cell.okWide Cell.ok at s;rw[A] at s;cases k<;>exact s
   split at b
   ·cases f:Nat.beq i.size 1<;>rw[f] at b<;>cases b;exact one (c _ rfl (by simp) (by simp) g) rfl
   ·cases f:Nat.beq i.size 1<;>rw[f] at b<;>cases b;exact one (c _ rfl (by simp) (by simp) g) rfl
   ·cases f:Nat.beq i.size 1<;>rw[f] at b<;>cases b;exact one (c _ rfl (by simp) (by simp) g) rfl
   ·cases f:Nat.beq i.size 1<;>rw[f] at b<;>cases b;exact one (c _ rfl (by simp) (by simp) g) rfl
   ·simp only[Bool.cond_eq_ite] at b
    split at b
    ·split at b
     ·cases b;exact one (c _ rfl (by simp) (by simp) g) rfl
     ·cases b
    ·cases b
   ·split at b
    ·rename_i u l;cases f:Nat.beq u.sz i.size<;>rw[f] at b<;>cases b;obtain⟨j,rfl, -⟩:=g;exact .inl ⟨gp l,j,rfl,o⟩
    ·cases b
   ·rename_i q e
    split at b
    ·rename_i u l;cases f:Nat.beq (F4 u q).sz i.size<;>rw[f] at b<;>cases b;obtain⟨j,rfl, -⟩:=g;exact .inl ⟨az _ _,j,rfl,o⟩
    ·cases b
   ·cases b
  ·cases b
theorem Oy {m:Nat} {base:Nat}:∀{ts:List TypeId} {vs:List Value} {ds:List (DataW H)} {e:List MemPlace} {as:List Ty},DataW.TrodAll enc P w 0 (λ_=>true) held ts vs ds e->ABj T m ts=some as->
  (∀(j:Nat) t v,ts[j]?=some t->vs[j]?=some v->Value.okWide P w .any base t v)->(∀z,z∈DataW.weightsEach P ts ds->z<=reachBytes)->∃x:AA as,Bc (SW w) as x vs/\xA as x
 |[],[],[],e,as,_,c,_,_=>by
  simp only[ABj,Option.some.injEq] at c;subst c;exact⟨(),rfl,trivial⟩
 |t::ts,v::vs,d::ds,e,as,h,c,i,f=>by
  obtain⟨p,q,k,l,rfl⟩:=h;simp only[ABj] at c
  split at c
  ·rename_i a n o r;cases c;simp only[DataW.weightsEach,List.mem_append] at f;obtain⟨y,g1,s⟩:=rR hT o (i 0 t v rfl rfl) k λz g=>f z (.inl g)
   obtain⟨x,g3,g4⟩:=Oy l r (λj t v a b=>i (j+1) t v (by simpa using a) (by simpa using b)) λz g=>f z (.inr g)
   exact⟨(y,x),⟨v,vs,rfl,g1,g3⟩,s,g4⟩
  ·cases c
 |[],_::_,_,_,_,h,_,_,_=>by cases h
 |[],[],_::_,_,_,h,_,_,_=>by cases h
 |_::_,[],_,_,_,h,_,_,_=>by cases h
 |_::_,_::_,[],_,_,h,_,_,_=>by cases h
omit hT in
theorem PL {w':World} (j:Bx w w') (K:Kids P (· <P.types.size)) (l:∀t e,t<P.types.size->P.underlying t=some (.slice e)->0<P.cellsOf e):∀{ts:List TypeId} {vs:List Value} {ds:List (DataW H)} {a:List MemPlace},
  (∀t,t∈ts->t<P.types.size)->DataW.TrodAll enc P w 0 (λ_=>true) true ts vs ds a->(∀p,p∈a->sp p.block=true)->DataW.TrodAll enc P w' 0 sp true ts vs ds a:=by
 intro ts vs ds a k h f;have c:=DataW.TrodAll.lt h;have g:DataW.TrodAll enc P w' 0 (λ_=>true) true ts vs ds a:=by
  clear f k
  revert ts vs ds a
  intro ts
  induction ts with
  |nil=>
   intro vs ds a h _;cases vs<;>cases ds<;>first|exact h|cases h
  |cons t ts m=>
   intro vs ds a h c;cases vs with
   |nil=>cases ds<;>cases h
   |cons v vs=>
    cases ds with
    |nil=>cases h
    |cons d ds=>
     obtain⟨p,q,⟨n,g⟩,o,rfl⟩:=h;refine⟨p,q,⟨n,DataW.trod_carry n _ _ _ g λx i=> ?_⟩,m o λx i=>c x (List.mem_append_right _ i),rfl⟩;have:=c x (List.mem_append_left _ i);cases x with
     |cell b off=>simp only[World.sameAt,World.cell?,j.2.2.2 b this]
     |map b=>exact j.2.2.2 b this
 exact DataW.TrodAll.respare K l k g f
omit hT in
theorem a6 {gl:List (Nat×List Value)} {f:FuncId} {as:List Ty} {pre:AA as->Bool} {g:AA as->AA [.bool]} (i:Gk P gl f ⟨as,[.bool],pre,g⟩) (j:∀x,xA as x->pre x=true/\g x=(true,())) (c:I6 gl w)
  {args:Array Value} {x:AA as} (k:Bc (SW w) as x args.toList) (l:xA as x):Calls P f args w λe w'=>e=.returned (.bool true)/\Bx w w':=by
 obtain⟨m,n⟩:=j x l;refine(i (SW w) w args x (rQ w) c k m).mono ?_;rintro e w' ⟨vs,d,rfl, -, -, -,a,o⟩;refine⟨?_,o⟩;have a:Bc d [.bool] (g x) vs:=a;rw[n] at a;obtain⟨v,r,rfl,b,rfl⟩:=a;rcases b with⟨h, -⟩|⟨-,b⟩
 ·cases h
 ·simp only[Bj,List.cons.injEq,and_true] at b;subst b;rfl
omit hT in
theorem a7 {gl:List (Nat×List Value)} {f:FuncId} (h:∀w,I6 gl w->Calls P f #[] w λe w'=>e=.returned (.bool true)/\Bx w w'):Gk P gl f ⟨[],[.bool],λ_=>true,λ_=>(true,())⟩:=by
 intro fz w args x j d a _;have a:args.toList=[]:=a;obtain rfl:args=#[]:=by cases args;simp_all
 refine(h w d).mono ?_;rintro e w' ⟨rfl,g⟩;refine⟨[.bool true],fz,rfl,λ_ _ h=>h,λb c k=> ?_,λ_ _ h=>.inl h,⟨_,_,rfl,.inr ⟨rfl,rfl⟩,rfl⟩,g⟩;obtain⟨e,fr,i⟩:=j b c k;exact⟨e,fr,by rw[g.2.2.2 b (Ap i)];exact i⟩
end
end Go.Eng
end
end
end
section
noncomputable section
noncomputable section
namespace Go.Eng
open Go
def mq:(rs:List OT)->Bz rs
 |[]=>()
 |r::rs=>(r.dflt,mq rs)
def kv (S:OSpec) (g:S.root.Den->Bz S.ts->Option (S.root.Den×Bz S.rs)):OSpec:=⟨S.rb,S.ri,S.root,S.re,S.ts,S.rs,λx y=>(g x y).isSome,λx y=>(g x y).getD (S.root.dflt,mq S.rs)⟩
def ACT (S:OSpec) (pre:S.root.Den->Bz S.ts->Bool) (g:S.root.Den->Bz S.ts->S.root.Den×Bz S.rs):OSpec:=⟨S.rb,S.ri,S.root,S.re,S.ts,S.rs,pre,g⟩
def ABq (E:Env) (S:OSpec) (x:S.root.Den):List Value×List Nat×St:=
 bif S.rb then match BA S.root x (Bg E) with
  |(vs,σ)=>([.pointer (some ⟨σ.next,0,none⟩)],[σ.next],σ.new (.row vs S.re false))
 else([],[],Bg E)
def gq (σ:St) (S:OSpec) (rid:List Nat):Option (CO S.root.Den):=
 bif S.rb then match rid with
  |[k]=>match Xb σ S (.pointer (some ⟨k,0,none⟩)) with
   |some (c,_)=>some c
   |none=>none
  |_=>none
 else match rid with
  |[]=>some ⟨S.root.dflt,[],[],[],[],[]⟩
  |_=>none
def Lq (E:Env) (fn:Func) (S:OSpec) (rid:List Nat) (e:Exit) (s:Tr Value) (σ:St):Option (S.root.Den×Bz S.rs):=
 match(match e with| .normal=>true| .ret=>true|_=>false) with
 |true=>match DZ E s σ fn.results.toList with
  |some (vs,_)=>match gq σ S rid with
   |some c=>match Sm σ S.rs vs with
    |some d=>bif Ir (rid++((c.g++d.g)++(c.f++d.f)))&&Jl σ (rid++((c.g++d.g)++(c.f++d.f)))&&Dv σ (c.i++d.i) then gd (c.p++d.p) (some (c.x,d.x)) else none
    |none=>none
   |none=>none
  |none=>none
 |false=>none
def xC (P:Program) (E:Env) (sh:Ez) (fn:Func) (S:OSpec) (N:Nat) (x:S.root.Den) (y:Bz S.ts):Option (S.root.Den×Bz S.rs):=
 match ABq E S x with
 |(a,rid,σ)=>match FK S.ts y σ with
  |(vs,σ')=>zc P E rid sh (zG P E rid sh (Lq E fn S rid) 1000 fn.ntmps 1000 N) (Lq E fn S rid) 1000 fn.ntmps 1000 (.run (Gd fn) []) (ES 0 (Dm S.ri a vs) .lf) σ'
def mr (P:Program) (E:Env) (sh:Ez) (fn:Func) (S:OSpec) (x:S.root.Den) (y:Bz S.ts):Option (S.root.Den×Bz S.rs):=xC P E sh fn S AE x y
section
variable {P:Program}
theorem LR.mono {D D':Nat->Prop} {ι ι':Nat->Reg} (a:∀i,D i->D' i) (b:∀i,D i->ι' i=ι i):∀{vs c:List Value},LR D ι vs c->LR D' ι' vs c
 |_,_,.nil=>.nil
 |_,_,.cons h t=>.cons (h.mono a b) (LR.mono a b t)
theorem XL {σ:St} {S:OSpec} {rid:List Nat} {c:CO S.root.Den} (h:gq σ S rid=some c):
  (S.rb=true/\∃id a,rid=[id]/\σ.heap.get id=some (.row a S.re false)/\HR σ S.root a=some c/\c.r=[])\/(S.rb=false/\rid=[]/\c=⟨S.root.dflt,[],[],[],[],[]⟩):=by
 unfold gq at h;cases b:S.rb
 ·rw[b,cond_false] at h
  split at h
  ·simp only[Option.some.injEq] at h;exact .inr ⟨rfl,rfl,h.symm⟩
  ·cases h
 ·rw[b,cond_true] at h
  split at h
  ·rename_i k
   split at h
   ·rename_i j id d;simp only[Option.some.injEq] at h;subst h;obtain⟨a,e,f,g,i⟩:=Mp d;cases e;exact .inl ⟨rfl,_,a,rfl,f,g,i⟩
   ·cases h
  ·cases h
def QOO (P:Program) (fn:Func) (S:OSpec) (r:Reg) (own:List Nat) (z:S.root.Den×Bz S.rs) (fz0:Nat->Option (Array Value)) (w0:World):Exit->Act->World->Prop:=
 bodyPost P fn λe w'=>Bs fz0 w0->(∀b,b∈FF S.rb r++own->fz0 b=none)->jB P S fz0 w0 r own z e w'
variable {E:Env} (hE:E.OK P)
include hE
theorem gr {nt:Nat} {r:Reg} {own rid:List Nat} {fz0:Nat->Option (Array Value)} {fn:Func} {S:OSpec} {z:S.root.Den×Bz S.rs} (X:S.rb=true->r.own=true) (e:Exit) (s:Tr Value) (σ:St) (h:Lq E fn S rid e s σ=some z):
  At P E nt (rid.map λk=>(k,r)) (QOO P fn S r own z fz0) (λ_ b=>b∈FF S.rb r++own) (λ_ b=>∃c,fz0 b=some c) (.out e []) s σ:=by
 unfold Lq at h
 split at h
 ·rename_i he
  split at h
  ·rename_i vs φ hr
   split at h
   ·rename_i c Y
    split at h
    ·rename_i d hres;cases m:(Ir (rid++((c.g++d.g)++(c.f++d.f)))&&Jl σ (rid++((c.g++d.g)++(c.f++d.f)))&&Dv σ (c.i++d.i))
     ·rw[m] at h;cases h
     rw[m,cond_true] at h;simp only[Bool.and_eq_true] at m;obtain⟨⟨b2,F⟩,b4⟩:=m;have b2:=HU b2;have F:=Dx F;have b4:=DM b4;obtain⟨hps,hz⟩:=KP h;cases hz;obtain⟨hp1,hp2⟩:=BK hps;intro w0 a w hs;have key:a.defers=[]/\∃v,(results fn a.tmps).run P w=.ok v w/\(Bs fz0 w0->(∀b,b∈FF S.rb r++own->fz0 b=none)->jB P S fz0 w0 r own (c.x,d.x) (.returned v) w):=by
      obtain⟨D,ι,hwf,hG,hD,hsr,hall,hdf,q1,q2,q3,q4,q5,q6,q7⟩:=hs;obtain⟨l,r1,r2⟩:=KK hE hr hsr (hall.on _);refine⟨hdf,De l,r1,λhz0 hno=> ?_⟩;have Q:∀k,k∈rid->ι k=r:=λk M=>(q7 (k,r) (List.mem_map_of_mem (f:=λk=>(k,r)) M)).2
      have A:=XL Y;have G:∀id,id∈rid++(c.g++d.g)->id∈rid++((c.g++d.g)++(c.f++d.f)):=λid h=>by
       simp only[List.mem_append] at h⊢;rcases h with h|h
       ·exact .inl h
       ·exact .inr (.inl h)
      have O:∀id,id∈c.f++d.f->id∈rid++((c.g++d.g)++(c.f++d.f)):=λid h=>List.mem_append_right _ (List.mem_append_right _ h)
      have hroB:FF S.rb r=BI ι rid:=by
       rcases A with⟨m,id,I,rfl,hg,_⟩|⟨m,p,_⟩
       ·rw[HT,Q id (by simp),X m];simp[FF,m]
       ·rw[p];simp[FF,m,BI]
      have B:FF S.rb r++(BI ι c.g++BI ι d.g)=BI ι (rid++(c.g++d.g)):=by rw[hroB,Br,Br]
      have hnd:(rid++(c.g++d.g)).Nodup:=by
       rw[<-List.append_assoc] at b2;exact(List.nodup_append.1 b2).1
      have hdis:∀id,id∈rid++(c.g++d.g)->id∉c.f++d.f:=by
       rw[<-List.append_assoc] at b2;exact λid h Z=>(List.nodup_append.1 b2).2.2 id h id Z rfl
      have J:∀i j,i∈rid++(c.g++d.g)->Lv σ.H j->i≠j->∀b,(ι i).Own b->¬(ι j).Own b/\¬(ι j).Fz b:=λi j hi R hij b m=>hall.inj i j (F i (G i hi)) R hij b m
      have hself:∀i,i∈rid++(c.g++d.g)->∀b,(ι i).Own b->¬(ι i).Fz b:=λi hi b m=>by
       obtain⟨y,hy,_⟩:=F i (G i hi);exact(hall.hd i y hy).self m
      have K:∀b,b∈FF S.rb r++(BI ι c.g++BI ι d.g)->∀j,Lv σ.H j->¬(ι j).Fz b:=λb m j R hz=>by
       rw[B] at m;obtain⟨id,N,p⟩:=DX.1 m;by_cases e:id=j
       ·subst e;exact hself id N b p hz
       ·exact(J id j N R e b p).2 hz
      have noOwn:∀b,b∈FF S.rb r++(BI ι c.g++BI ι d.g)->∀j,j∈c.f++d.f->¬(ι j).Own b:=λb m j R ho=>by
       rw[B] at m;obtain⟨id,N,p⟩:=DX.1 m;exact(J id j N (F j (O j R)).lv (λe=>hdis id N (e▸R)) b p).1 ho
      let o:Nat->Option (Array Value):=λb=>if b∈FF S.rb r++(BI ι c.g++BI ι d.g) then none else if b<w0.heap.size/\b∉FF S.rb r++own then fz0 b else(match w.heap[b]? with|some (.cells c _ _)=>some c|_=>none)
      have fz1:∀b n,fz0 b=some n->b<w0.heap.size/\b∉FF S.rb r++own/\∃e fr,w.heap[b]?=some (.cells n e fr):=λb n h=>by
       obtain⟨e,fr,Z⟩:=hz0 b n h;have q:=Ap Z;have t:b∉FF S.rb r++own:=λhm=>by rw[hno b hm] at h;cases h
       exact⟨q,t,e,fr,by rw[q4 b q t];exact Z⟩
      have JG:∀b n e fr,b∉FF S.rb r++(BI ι c.g++BI ι d.g)->w.heap[b]?=some (.cells n e fr)->(w0.heap.size<=b\/b∈FF S.rb r++own\/∃c0,fz0 b=some c0)->o b=some n:=λb n e fr t C hcase=>by
       simp only[o,if_neg t];by_cases q:b<w0.heap.size/\b∉FF S.rb r++own
       ·rw[if_pos q];rcases hcase with h|h|⟨c0,h⟩
        ·omega
        ·exact absurd h q.2
        ·obtain⟨_,_,e',fr',Z⟩:=fz1 b c0 h;rw[C] at Z;cases Z;exact h
       ·rw[if_neg q,C]
      have hX1:∀b n,Gv ι (c.i++d.i) (c.f++d.f) w b=some n->o b=some n:=λb n h=>by
       obtain⟨e,fr,C⟩:=Du b n h;rcases FO h with⟨j,j1,T⟩|⟨j,j1,T|T⟩
       ·exact JG b n e fr (λhm=>K b hm j (b4 j j1) T) C (q6 j (b4 j j1) b T)
       ·exact JG b n e fr (λhm=>noOwn b hm j j1 T) C ((q5 j (F j (O j j1)) b T).imp_right .inl)
       ·exact JG b n e fr (λhm=>K b hm j (F j (O j j1)).lv T) C (q6 j (F j (O j j1)).lv b T)
      have hX2:∀id,id∈c.g++d.g->Bs (ι id).fz w->∀b n,(ι id).fz b=some n->o b=some n:=λid hid hz b n m=>by
       obtain⟨e,fr,C⟩:=hz b n m;have hl:=(F id (G id (List.mem_append_right _ hid))).lv;exact JG b n e fr (λhm=>K b hm id hl ⟨n,m⟩) C (q6 id hl b ⟨n,m⟩)
      have hd':∀id,id∈c.i++d.i\/id∈c.g++d.g\/id∈c.f++d.f->∀x,σ.H.hdr id=some x->Am P ι id w x:=λid _ x hx=>hall.hd id x hx
      have U:∀id,id∈c.g++d.g\/id∈c.f++d.f->∀k v,Lv σ.H id->σ.H.cell id k=some v->BL D ι id w k v:=λid _ k v hl hv=>hall.ce id k v hl hv
      have hRR:=RC hX1 hX2 hd' U S.rs vs l d hres (λ_ h=>List.mem_append_right _ h) (λ_ h=>List.mem_append_right _ h) (λ_ h=>List.mem_append_right _ h) hp2 (LR.of_AR r2);have hRt:S.rb=true->OW P w o r S.root S.re c.x (BI ι c.g):=λhrb=>by
       rcases A with⟨m,id,I,rfl,hg,hob,hcr⟩|⟨m,_⟩
       ·have hio:=Q id (by simp);have C:=hall.hd id _ (St.hdr_of hg);have hh2:=C;obtain⟨arr,el,fr,e1,e2,e3,⟨e4,e5⟩,e6⟩:=hh2;have e3:I.length<=(ι id).room:=e3;have V:((arr.toList.drop (ι id).base).take I.length).length=I.length:=by
         simp only[List.length_take,List.length_drop,Array.length_toList];omega
        have hcell:∀k,k<I.length->∃u,arr.toList[(ι id).base+k]?=some u/\∃v,I[k]?=some v/\VR D ι v u:=by
         intro k M;obtain⟨_,u,W,hvu⟩:=hall.ce id k I[k] (St.lv_of hg) (by rw[St.cell_of hg];exact List.getElem?_eq_getElem M);simp only[World.cell?,e1,Option.isSome_none,Bool.false_eq_true,if_false] at W;exact⟨u,by rw[Array.getElem?_toList];exact W,I[k],List.getElem?_eq_getElem M,hvu⟩
        have hlr0:LR D ι I ((arr.toList.drop (ι id).base).take I.length):=by
         refine LR.of_AR ⟨by simpa using V.symm,λi a b ha m=> ?_⟩;simp only[List.getElem?_toArray] at ha m;rw[List.getElem?_take] at m
         split at m
         ·rename_i hi;obtain⟨u,W,v,hv',hvu⟩:=hcell i hi;rw[List.getElem?_drop,W] at m;rw[hv'] at ha;cases ha;cases m;exact hvu
         ·cases m
        obtain⟨u1,u2,W,k1,k2⟩:=RB hX1 hX2 hd' U S.root I _ c hob (λ_ h=>List.mem_append_left _ h) (λ_ h=>List.mem_append_left _ h) (λ_ h=>List.mem_append_left _ h) hp1 hlr0;rw[hcr] at k2;cases k2;rw[List.append_nil] at W;refine⟨u1,?_,λk u M=> ?_,k1⟩
        ·rw[<-W,V];exact Am.as (ι0:=λ_=>r) C hio.symm
        ·rw[<-hio];rw[<-W,List.getElem?_take] at M
         split at M
         ·rw[List.getElem?_drop,Array.getElem?_toList] at M;simp only[World.cell?,e1,Option.isSome_none,Bool.false_eq_true,if_false];exact M
         ·cases M
       ·rw[hrb] at m;cases m
      have hN:(FF S.rb r++(BI ι c.g++BI ι d.g)).Nodup:=by
       rw[B];exact Ip hnd λi j hi R hij b m=>(J i j hi (F j (G j R)).lv hij b m).1
      have L:∀b,b∈BI ι c.g++BI ι d.g->w0.heap.size<=b\/b∈FF S.rb r++own:=λb m=>by
       rw[<-Br] at m;obtain⟨id,N,p⟩:=DX.1 m;exact q5 id (F id (G id (List.mem_append_right _ N))) b p
      have hnro:∀b,b∈BI ι c.g++BI ι d.g->b∉FF S.rb r:=λb m hb'=>(List.nodup_append.1 hN).2.2 b hb' b m rfl
      refine⟨l,o,BI ι c.g,BI ι d.g,rfl,λb n h=> ?_,λb n h=> ?_,λb n h=> ?_,hN,λb m=>by simp only[o,if_pos m],λb m=> ?_,hRt,λhrb=> ?_,hRR,q1,q2,q3,λb m t=>q4 b m t⟩
      ·obtain⟨N,p,e,fr,h3⟩:=fz1 b n h;refine JG b n e fr (λhm=> ?_) h3 (.inr (.inr ⟨n,h⟩));rcases List.mem_append.1 hm with hm|hm
       ·exact p (List.mem_append_left _ hm)
       ·exact(L b hm).elim (λh=>by omega) p
      ·simp only[o] at h
       split at h
       ·cases h
       ·split at h
        ·exact(fz1 b n h).2.2
        ·split at h
         ·rename_i c' e fr C;cases h;exact⟨e,fr,C⟩
         ·cases h
      ·simp only[o] at h
       split at h
       ·cases h
       ·rename_i t
        split at h
        ·exact .inl h
        ·rename_i q;by_cases N:b<w0.heap.size
         ·refine .inr (.inr ?_);have:b∈FF S.rb r++own:=Decidable.byContradiction λp=>q ⟨N,p⟩
          exact(List.mem_append.1 this).resolve_left λp=>t (List.mem_append_left _ p)
         ·exact .inr (.inl (by omega))
      ·rcases L b m with h|h
       ·exact .inr h
       ·exact .inl ((List.mem_append.1 h).resolve_left (hnro b m))
      ·rcases A with⟨m,_⟩|⟨_,_,p⟩
       ·rw[hrb] at m;cases m
       ·rw[p];rfl
     cases e with
     |normal=>exact key
     |ret=>exact key
     |_=>cases he
    ·cases h
   ·cases h
  ·cases h
 ·cases h
omit hE in
theorem MatP.hall {w:World} {fz:Nat->Option (Array Value)} {own:List Nat} {D:Nat->Prop} {ι ι':Nat->Reg} {σ σ':St} (m:MatP P w fz own D ι σ σ' ι') (h:HAll P D ι σ.H w) (z:∀id,D id->id<σ.next) (q:∀id,¬Wr σ.H id)
  (g:∀id,Lv σ.H id->∀b,b∈own->¬(ι id).Own b/\¬(ι id).Fz b) (r:∀b,b∈own->fz b=none):HAll P (λi=>D i\/σ.rng σ' i) ι' σ'.H w:=by
 have d:∀id,¬σ.rng σ' id->σ'.H.hdr id=σ.H.hdr id:=λid e=>by simp only[St.H,m.a.old id e]
 refine⟨λid x f=> ?_,λid k v A f=> ?_,λi j B C s b t=> ?_⟩
 ·by_cases e:σ.rng σ' id
  ·obtain⟨o,g1,u,g3⟩:=m.new id e;rw[St.hdr_of g1] at f;cases f;exact u
  ·rw[d id e] at f;exact(h.hd id x f).as (m.io id e)
 ·by_cases e:σ.rng σ' id
  ·obtain⟨o,g1,u,g3⟩:=m.new id e;simp only[St.H,g1] at f;exact g3 k v f
  ·have E:σ'.H.cell id k=σ.H.cell id k:=by simp only[St.H,m.a.old id e]
   rw[E] at f;exact(h.ce id k v (A.of_hdr (d id e)) f).into (m.io id e) (λ_=>.inl) λi l=>m.io i λe=>by have:=z i l;have:=e.1;omega
 ·by_cases l:σ.rng σ' i
  ·have n:=m.own i l b t;by_cases p:σ.rng σ' j
   ·refine⟨m.dist i j l p s b t,λ⟨c,F⟩=> ?_⟩;have y:=m.fz j p b c F;rw[r b n] at y;cases y
   ·rw[m.io j p];exact g j (C.of_hdr (d j p)) b n
  ·exact absurd (B.of_hdr (d i l)) (q i)
theorem rS (hne:∀p,p∈E.gl->p.2≠[]) {sh:Ez} {S:OSpec} {f:FuncId} {fn:Func} (hfn:P.funcs[f]?=some fn) (n:fn.body.isSome=true) (hnt:S.ts.length+1<=fn.ntmps):Rs P E.gl f (kv S (mr P E sh fn S)):=by
 obtain⟨body,n⟩:=Option.isSome_iff_exists.1 n;intro fz w r d j args x y hz hgl hN s V L W M C;have hN:(FF S.rb r++(d++j)).Nodup:=hN;have s:∀b,b∈FF S.rb r++(d++j)->fz b=none:=s;have V:∀p,p∈E.gl->p.1∉FF S.rb r++(d++j):=V;have L:S.rb=true->OW P w fz r S.root S.re x d:=L
 have W:S.rb=false->d=[]:=W;have M:OX P w fz S.ts y args j:=M;have C:(mr P E sh fn S x y).isSome=true:=C;obtain⟨z,hy⟩:=Option.isSome_iff_exists.1 C;have hg:(kv S (mr P E sh fn S)).g x y=z:=by show(mr P E sh fn S x y).getD _=z;rw[hy];rfl
 rw[hg];have X:=List.nodup_append.1 hN;have Y:=List.nodup_append.1 X.2.1;have hwf0:=Yq hE [];have Z:=Qo (P:=P) hne [] hgl;obtain⟨J,rid,σ1,ι1,he,hm1,hLr,hrid⟩:∃(J:List Value) (rid:List Nat) (σ1:St) (ι1:Nat->Reg),ABq E S x=(J,rid,σ1)/\MatP P w fz (d++FF S.rb r) (λid=>id<E.G) (EA w) (Bg E) σ1 ι1/\
   LR (λi=>i<E.G\/(Bg E).rng σ1 i) ι1 J (aV S.rb r)/\(∀k,k∈rid->ι1 k=r/\(Bg E).rng σ1 k):=by
  cases u:S.rb
  ·refine⟨[],[],Bg E,EA w,by simp[ABq,u],?_,by simp only[aV,cond_false];exact .nil,λk h=>by cases h⟩;rw[W u];exact .refl
  ·obtain⟨us,r1,r2,r3⟩:=L u;have hD0:∀(σ':St) id,(Bg E).rng σ' id->¬id<E.G:=λσ' id o N=>by have:E.G<=id:=o.1;omega
   obtain⟨ι1,O,k2,k3⟩:=Q9 hz S.root x us d (λid=>id<E.G) (EA w) (Bg E) r3 Y.1 (hD0 _);have T:r.own=true:=by obtain⟨_,_,_,_,_,_,⟨h,_⟩,_⟩:=r1;exact h
   have hfz:∀b c,r.fz b=some c->fz b=some c:=λb c h=>by
    obtain⟨_,_,_,_,_,_,⟨_,h'⟩,_⟩:=r1;exact absurd ⟨c,h⟩ (h' b)
   generalize hm:BA S.root x (Bg E)=m at O k2 k3;have hle:=O.a.le;have B:∀id,id<E.G\/(Bg E).rng m.2 id->id≠m.2.next:=λid hid e=>by
    rcases hid with hid|hid
    ·have hle:E.G<=m.2.next:=hle;omega
    ·have:=hid.2;omega
   have one:MatP P w fz (bif r.own then [r.blk] else []) (λi=>i<E.G\/(Bg E).rng m.2 i) ι1 m.2 (m.2.new (.row m.1 S.re false)) (EG ι1 m.2.next r):=by
    refine .one (by simpa only[AO.hd,k2] using r1) (λk v K=> ?_) hfz;have K:m.1[k]?=some v:=K;have N:k<us.length:=by
     rcases Nat.lt_or_ge k us.length with h|h
     ·exact h
     ·rw[List.getElem?_eq_none (by omega)] at K;cases K
    refine⟨by rw[AV];exact T,us[k],by rw[AV];exact r2 k _ (List.getElem?_eq_getElem N),?_⟩;exact(k3 k v _ K (List.getElem?_eq_getElem N)).mono (λ_ h=>h) λi hi=>Dz _ _ (B i hi)
   rw[T,cond_true] at one;have all:=O.trans (hD0 _) one λb n Q=>by
    have A:b∈FF S.rb r:=by rw[u];exact Q
    exact X.2.2 b A b (List.mem_append_left _ n) rfl
   have hin:(Bg E).rng (m.2.new (.row m.1 S.re false)) m.2.next:=⟨hle,by simp[St.new]⟩
   refine⟨_,_,_,_,by simp only[ABq,u,cond_true,hm];rfl,all,?_,λk K=> ?_⟩
   ·have:=VR.ptr (D:=λi=>i<E.G\/(Bg E).rng (m.2.new (.row m.1 S.re false)) i) (ι:=EG ι1 m.2.next r) m.2.next 0 (.inr hin);rw[AV,Nat.add_zero] at this;exact .cons this .nil
   ·rw[List.mem_singleton] at K;subst K;exact⟨AV ..,hin⟩
 have hle1:E.G<=σ1.next:=hm1.a.le;have B:∀id,σ1.rng (FK S.ts y σ1).2 id->¬(id<E.G\/(Bg E).rng σ1 id):=λid o hid=>by
  have:=o.1;rcases hid with hid|hid
  ·omega
  ·have:=hid.2;omega
 obtain⟨ι2,O,k2⟩:=RA hz S.ts y args j _ ι1 σ1 M Y.2.1 B;generalize hm:FK S.ts y σ1=m at O k2 B;have hle2:=O.a.le;have all:=hm1.trans (λid o (N:id<E.G)=>by have:E.G<=id:=o.1;omega) O λb n Q=>by
  rcases List.mem_append.1 n with n|n
  ·exact Y.2.2 b n b Q rfl
  ·exact X.2.2 b n b (List.mem_append_right _ Q) rfl
 have F:∀b,b∈(d++FF S.rb r)++j->b∈FF S.rb r++(d++j):=λb n=>by
  simp only[List.mem_append] at n⊢;rcases n with(n|n)|n
  ·exact .inr (.inl n)
  ·exact .inl n
  ·exact .inr (.inr n)
 have U:∀id,¬Wr (Bg E).H id:=λid ⟨y,hy,hw⟩=>by
  obtain⟨p,_,_,_,rfl⟩:=IR (E:=E) [] hy;cases hw
 have R:∀id b,(EA w id).Own b->b=id:=λid b h=>h.2.symm
 have hHall:HAll P (λi=>i<E.G\/(Bg E).rng m.2 i) ι2 m.2.H w:=MatP.hall all Z (λid h=>h) U (λid hl b n=>⟨λho=>by
  obtain⟨x0,hx0⟩:=hl;obtain⟨p,A,q,_⟩:=IR (E:=E) [] hx0;have:=R id b ho;exact V p A (by rw[q,<-this];exact F b n),Ii _ _ _ _ b⟩) λb n=>s b (F b n)
 have hlen:(Dm S.ri J m.1).length=(Dm S.ri (aV S.rb r) args).length:=by
  simp only[Dm,List.length_append,List.length_take,List.length_drop,hLr.len,k2.len]
 have har:AR (λi=>i<E.G\/(Bg E).rng m.2 i) ι2 (Dm S.ri J m.1).toArray (Dm S.ri (aV S.rb r) args).toArray:=by
  have A:LR (λi=>i<E.G\/(Bg E).rng m.2 i) ι2 J (aV S.rb r):=
   LR.mono (λi hi=>hi.imp_right λh=>⟨h.1,by have:=h.2;omega⟩) (λi hi=>O.io i λo=>B i o hi) hLr
  have q:LR (λi=>i<E.G\/(Bg E).rng m.2 i) ι2 m.1 args:=LR.mono (λi hi=>by
   rcases hi with(hi|hi)|hi
   ·exact .inl hi
   ·exact .inr ⟨hi.1,by have:=hi.2;omega⟩
   ·exact .inr ⟨(by have:=hi.1;have:E.G<=i:=by omega
                    exact this),hi.2⟩) (λ_ _=>rfl) k2
  exact(LR.append (LR.take S.ri q) (LR.append A (LR.drop S.ri q))).AR
 have hnt2:(Dm S.ri J m.1).length<=fn.ntmps:=by
  have A:(aV S.rb r).length<=1:=by unfold aV;cases S.rb<;>simp
  have q:args.length=S.ts.length:=by
   have:∀(ts:List OT) (y:Bz ts) (vs:List Value) (own:List Nat),OX P w fz ts y vs own->vs.length=ts.length:=λts=>by
    induction ts with
    |nil=>intro y vs own ⟨h,_⟩;rw[h];rfl
    |cons t ts ih=>intro y vs own ⟨v,rest,o1,o2,h,_,_,q⟩;rw[h,List.length_cons,List.length_cons,ih _ _ _ q]
   exact this _ _ _ _ M
  rw[hlen];simp only[Dm,List.length_append,List.length_take,List.length_drop,q];omega
 have has:Jc P E fn.ntmps (rid.map λk=>(k,r)) w (λb=>b∈FF S.rb r++(d++j)) (λb=>∃c,fz b=some c) (ES 0 (Dm S.ri J m.1) .lf) m.2 { tmps:=(Dm S.ri (aV S.rb r) args).toArray++Array.replicate (fn.ntmps-(Dm S.ri (aV S.rb r) args).toArray.size) undef,defers:=[]} w:=by
  refine⟨λi=>i<E.G\/(Bg E).rng m.2 i,ι2,all.a.wf hwf0,?_,?_,Kd har hnt2,hHall,rfl,Nat.le_refl _,rfl,rfl,λ_ _ _=>rfl,λid hw b ho=> ?_,λid hl b hf=> ?_,λp hp=> ?_⟩
  ·intro g hg;have:ι2 g=EA w g:=all.io g λo=>by have:E.G<=g:=o.1;omega
   rw[this];exact⟨.inl hg,rfl,rfl,RL hgl⟩
  ·intro id hid;rcases hid with hid|hid
   ·omega
   ·exact hid.2
  ·by_cases o:(Bg E).rng m.2 id
   ·exact .inr (F b (all.own id o b ho))
   ·exact absurd (hw.of_hdr (by simp only[St.H,all.a.old id o])) (U id)
  ·by_cases o:(Bg E).rng m.2 id
   ·obtain⟨c,hc⟩:=hf;exact .inr (.inr ⟨c,all.fz id o b c hc⟩)
   ·rw[all.io id o] at hf;exact absurd hf (Ii _ _ _ _ b)
  ·obtain⟨k,K,rfl⟩:=List.mem_map.1 hp;obtain⟨A,q⟩:=hrid k K;refine⟨.inr ⟨q.1,by have:=q.2;omega⟩,?_⟩;show ι2 k=r;rw[O.io k λo=>B k o (.inr q)];exact A
 have hrown:S.rb=true->r.own=true:=λu=>by
  obtain⟨us,⟨_,_,_,_,_,_,⟨h,_⟩,_⟩,_⟩:=L u;exact h
 have hrun:zc P E rid sh (zG P E rid sh (Lq E fn S rid) 1000 fn.ntmps 1000 AE) (Lq E fn S rid) 1000 fn.ntmps 1000 (.run (Gd fn) []) (ES 0 (Dm S.ri J m.1) .lf) m.2=some z:=by
  have:=hy;unfold mr xC at this;rw[he] at this;simp only[hm] at this;exact this
 have I:(rid.map λk=>(k,r)).map (·.1)=rid:=by rw[List.map_map];exact List.map_id' _
 have kt:At P E fn.ntmps (rid.map λk=>(k,r)) (QOO P fn S r (d++j) z fz) (λ_ b=>b∈FF S.rb r++(d++j)) (λ_ b=>∃c,fz b=some c) (.run (Gd fn) []) (ES 0 (Dm S.ri J m.1) .lf) m.2:=by
  have hfin:=gr hE (nt:=fn.ntmps) (r:=r) (own:=d++j) (rid:=rid) (fz0:=fz) (fn:=fn) (S:=S) (z:=z) hrown;refine F3 hE (pin:=rid.map λk=>(k,r)) (rec:=zG P E rid sh (Lq E fn S rid) 1000 fn.ntmps 1000 AE) (fin:=Lq E fn S rid) (y:=z) hfin (λb ks l objs hh=> ?_) 1000 _ _ _ (by rw[I];exact hrun)
  exact Ox hE (pin:=rid.map λk=>(k,r)) hfin AE b ks l objs (by rw[I];exact hh)
 have hbody:body=Gd fn:=by simp only[Gd,n]
 have hwp:=kt w _ w has;refine calls_of_wp hfn n (wp_mono (by rw[hbody];exact hwp) ?_);intro e a w' hq;cases e with
 |normal=>obtain⟨A,v,q,h3⟩:=hq;exact⟨A,v,q,h3 hz s⟩
 |ret=>obtain⟨A,v,q,h3⟩:=hq;exact⟨A,v,q,h3 hz s⟩
 |panic ch=>obtain⟨A,h3⟩:=hq;exact⟨A,h3 hz s⟩
 |outgrown=>exact hq hz s
 |exit id=>exact hq
 |goto l=>exact hq
omit hE in
theorem Rs.nice {gl:List (Nat×List Value)} {f:FuncId} {S:OSpec} {g:S.root.Den->Bz S.ts->Option (S.root.Den×Bz S.rs)} (h:Rs P gl f (kv S g)) {pre:S.root.Den->Bz S.ts->Bool} {n:S.root.Den->Bz S.ts->S.root.Den×Bz S.rs}
  (o:∀x y,pre x y=true->g x y=some (n x y)):Rs P gl f (ACT S pre n):=by
 intro fz w r a b args x y p d hN i j k l m c;have e:=o x y c;have:=h fz w r a b args x y p d hN i j k l m (by show(g x y).isSome=true;rw[e];rfl);have q:(kv S g).g x y=n x y:=by show(g x y).getD _=n x y;rw[e];rfl
 rw[q] at this;exact this
def a8:List (Nat×OSpec)->FuncId->Option OSpec
 |[],_=>none
 |(g,S)::r,f=>bif Nat.beq g f then some S else a8 r f
def Oz (P:Program) (gl:List (Nat×List Value)):List (Nat×OSpec)->Prop
 |[]=>True
 |(g,S)::r=>Rs P gl g S/\Oz P gl r
omit hE in
theorem Me {gl:List (Nat×List Value)}:∀{l:List (Nat×OSpec)},Oz P gl l->∀f S,a8 l f=some S->Rs P gl f S
 |[],_,f,S,h=>by cases h
 |(g,T)::r,b,f,S,h=>by
  simp only[a8] at h;cases a:Nat.beq g f
  ·rw[a] at h;exact Me b.2 f S h
  ·rw[a] at h;have:=Nat.eq_of_beq_eq_true a;subst this;cases h;exact b.1
end
end Go.Eng
end
end
end
section
noncomputable section
noncomputable section
namespace Go.Eng
open Go
def ofV (t:Ty) (e:TypeId) (g:List t.Den->Option (List t.Den)):VSpec:=⟨t,e,λx=>(g x).isSome,λx=>(g x).getD []⟩
theorem WQ.nice {P:Program} {gl:List (Nat×List Value)} {f:FuncId} {t:Ty} {e:TypeId} {g:List t.Den->Option (List t.Den)} (h:WQ P gl f (ofV t e g)) {pre:List t.Den->Bool} {n:List t.Den->List t.Den} (j:∀x,pre x=true->g x=some (n x)):WQ P gl f ⟨t,e,pre,n⟩:=by
 intro r w a c k d b;have i:=j a b;have:=h r w a c k d (by show(g a).isSome=true;rw[i];rfl);have l:(ofV t e g).g a=n a:=by show(g a).getD []=_;rw[i];rfl
 rw[l] at this;exact this
def kx:List (Nat×VSpec)->FuncId->Option VSpec
 |[],_=>none
 |p::a,f=>bif Nat.beq f p.1 then some p.2 else kx a f
def XM (P:Program) (gl:List (Nat×List Value)):List (Nat×VSpec)->Prop
 |[]=>True
 |p::a=>WQ P gl p.1 p.2/\XM P gl a
theorem Y1 {P:Program} {gl:List (Nat×List Value)}:∀{l:List (Nat×VSpec)},XM P gl l->∀f S,kx l f=some S->WQ P gl f S
 |[],_,f,S,h=>by cases h
 |p::c,b,f,S,h=>by
  unfold kx at h;cases a:Nat.beq f p.1
  ·rw[a,cond_false] at h;exact Y1 b.2 f S h
  ·rw[a,cond_true] at h;cases h;rw[Nat.eq_of_beq_eq_true a];exact b.1
