/-
  The engine, part 11: an abstract evaluator over the model's code, proved sound. No condition.
-/
import Derived.Test.YtldllfocpadkeaaGreatDoorEng10
import Derived.ChangeArms
import Derived.ReadAgain
import Derived.ProofKit
import Derived.WalkKit
import Derived.OpenShut
section
noncomputable section
noncomputable section
namespace Go.Eng
open Go
def heads:Code→List Kt→List Pl
 | .seq a b,ks=>heads a (.seq b::ks)++heads b ks
 | .cond _ a b,ks=>heads a ks++heads b ks
 | .block id b,ks=>heads b (.block id::ks)
 | .loop b,ks=>.head b ks::heads b (.loop b::ks)
 | .scope b,ks=>heads b (.scope b::ks)
 |_,_=>[]
def hdN (fn:Func) (n:Nat):Pl:=(heads (bodyOf fn) []).getD n (.out .normal [])
def Pl.enter:Pl→Pl
 | .head b ks=>.run b (.loop b::ks)
 |p=>p
end Go.Eng
namespace Go.Eng
open Go
def specL:List (Nat×PSpec)→FuncId→Option PSpec
 |[],_=>none
 |(g,S)::r,f=>bif Nat.beq g f then some S else specL r f
def PureAll (P:Program) (gl:List (Nat×List Value)):List (Nat×PSpec)→Prop
 |[]=>True
 |(g,S)::r=>PureC P gl g S∧PureAll P gl r
theorem specL_ok {P:Program} {gl:List (Nat×List Value)}:∀{l:List (Nat×PSpec)},PureAll P gl l→∀f S,specL l f=some S→PureC P gl f S
 |[],_,f,S,h=>by cases h
 |(g,T)::r,hp,f,S,h=>by
  simp only[specL] at h;cases hb:Nat.beq g f
  ·rw[hb] at h;exact specL_ok hp.2 f S h
  ·rw[hb] at h;have:=Nat.eq_of_beq_eq_true hb;subst this;cases h;exact hp.1
end Go.Eng
end
end
end
section
noncomputable section
noncomputable section
namespace Go.Eng
open Go
def gd {α:Type}:List Bool→Option α→Option α
 |[],r=>r
 |b::bs,r=>gd bs (bif b then r else none)
theorem gd_some {α:Type} {y:α}:∀{l:List Bool} {r:Option α},gd l r=some y→AllP l∧r=some y
 |[],_,h=>⟨trivial,h⟩
 |b::bs,r,h=>by
  obtain⟨h1,h2⟩:=gd_some (l:=bs) h;cases b
  ·cases h2
  ·exact⟨⟨rfl,h1⟩,h2⟩
section
variable (P:Program) (E:Env) (call:CallF) (nt:Nat) {α:Type}
def asB:Value→Option Bool
 | .tuple a=>match a.toList with
   |[.chan (some 1),.bool b]=>some b
   |_=>none
 |_=>none
def cPut (o:Oper) (s:Tr Value) (v:Value) (σ:St) (φ:Foot) (k:Tr Value→St→Foot→Option α):Option α:=
 match asB v with
 |some b=>bif b then(match aPut nt s o.dst (.bool true) with
   |some s'=>k s' σ φ
   |none=>none)
  else(match aPut nt s o.dst (.bool false) with
   |some s'=>k s' σ φ
   |none=>none)
 |none=>match aPut nt s o.dst v with
  |some s'=>k s' σ φ
  |none=>none
def cGot (o:Oper) (s:Tr Value) (σ:St) (r:Option OpR) (k:Tr Value→St→Foot→Option α):Option α:=
 match r with
 |some (.val r)=>cPut nt o s r.v r.σ r.φ k
 |some (.enter f args)=>match call f args σ with
  |some (v,σ1,φ)=>cPut nt o s v σ1 φ k
  |none=>none
 |none=>none
def rSplit (s:Tr Value) (t:TypeId) (x i:Operand):Option (IntKind×Int×Nat×Value):=
 match av E.G s x,av E.G s i with
 |some v,some (.tuple a)=>match unsy (.tuple a),E.T.und t,v with
  |some (.int k n),some (.array len _),.pointer (some ⟨_,_,none⟩)=>some (k,n,len,v)
  |some (.int k n),some (.slice _),.slice (some ⟨_,_,none⟩) len _=>some (k,n,len,v)
  |_,_,_=>none
 |_,_=>none
def cSplit (g:Int→Option OpR) (n:Int) (K:Option OpR→Option α):Nat→Nat→Option α
 |0,_=>none
 |m+1,j=>bif n==(Int.ofNat j) then K (g (Int.ofNat j)) else cSplit g n K m (j+1)
def cRun (o:Oper) (s:Tr Value) (σ:St) (k:Tr Value→St→Foot→Option α):Option α:=
 match o.op with
 | .pick c a b=>match av E.G s c with
   |some (.bool t)=>bif t then cGot call nt o s σ (pureV σ (av E.G s a)) k else cGot call nt o s σ (pureV σ (av E.G s b)) k
   |_=>none
 | .indexAddr t x i=>match rSplit E s t x i with
   |some (kd,n,len,v)=>cSplit (fun j=>memV (aIndexAddr E.T σ t v (.int kd j))) n (fun r=>cGot call nt o s σ r k) len 0
   |none=>cGot call nt o s σ (aOpS P E s σ o) k
 |_=>cGot call nt o s σ (aOpS P E s σ o) k
def cWant (ops:List Oper) (s:Tr Value) (o:Oper):Option Bool:=
 match o.guard with
 |none=>some true
 |some (j,want)=>match oget ops j with
  |some g=>match g.dst with
   |some d=>match s.get d with
    |some (.bool b)=>some (bif want then b else !b)
    |some v=>bif notB v then some false else none
    |none=>none
   |none=>some false
  |none=>some false
theorem cWant_eq (ops:List Oper) (s:Tr Value) (o:Oper):cWant ops s o=aWanted ops s o:=by
 unfold cWant aWanted
 split
 ·rename_i h;rw[h]
 ·rename_i j want h;rw[h];simp only
  split
  ·rename_i g hg;rw[hg];simp only
   split
   ·rename_i d hd;rw[hd];simp only
    split
    ·rename_i b hb;rw[hb];cases want<;>cases b<;>rfl
    ·rename_i v hv hb;rw[hb];cases v<;>first|rfl|exact absurd rfl (hv _)
    ·rename_i hb;rw[hb]
   ·rename_i hd;rw[hd]
  ·rename_i hg;rw[hg]
def cStep (all:List Oper) (o:Oper) (s:Tr Value) (σ:St) (k:Tr Value→St→Foot→Option α):Option α:=
 match cWant all s o with
 |some b=>bif b then cRun P E call nt o s σ k else(match aPut nt s o.dst undef with
  |some s'=>k s' σ .nil
  |none=>none)
 |none=>none
def cOps (all:List Oper):List Oper→Tr Value→St→(Tr Value→St→Option α)→Option α
 |[],s,σ,k=>k s σ
 |o::os,s,σ,k=>cStep P E call nt all o s σ fun s1 σ1 _=>cOps all os s1 σ1 k
def cSteps (all:List Oper):List Oper→Tr Value→St→(Tr Value→St→List Rec→Option α)→Option α
 |[],s,σ,k=>k s σ []
 |o::os,s,σ,k=>cStep P E call nt all o s σ fun s1 σ1 φ1=>cSteps all os s1 σ1 fun s2 σ2 rs=>k s2 σ2 (⟨φ1.trim σ.next,σ.next,σ1.next⟩::rs)
end
section
variable {P:Program} {E:Env} {call:CallF} {nt:Nat} {α:Type} {y:α}
theorem asB_spec {v:Value} {b:Bool} (h:asB v=some b):v=sy (.bool b):=by
 unfold asB at h
 split at h
 ·rename_i a
  split at h
  ·rename_i b' hb;cases h;obtain⟨l⟩:=a;simp only at hb;rw[hb]
  ·cases h
 ·cases h
theorem asB_none {v:Value} {σ:St} (h:asB v=none):resolve v σ=some (v,σ):=by
 cases v with
 |tuple a=>
  simp only[asB] at h;simp only[resolve]
  split at h
  ·cases h
  ·rename_i hno
   split
   ·rename_i b hb;exact absurd hb (hno b)
   ·rfl
 |_=>rfl
theorem cPut_path {o:Oper} {s:Tr Value} {v:Value} {σ:St} {φ:Foot} {k:Tr Value→St→Foot→Option α} (h:cPut nt o s v σ φ k=some y):
  ∃u s',resolve v σ=some (u,σ)∧aPut nt s o.dst u=some s'∧k s' σ φ=some y:=by
 unfold cPut at h
 split at h
 ·rename_i b hb;rw[asB_spec hb];cases b
  ·rw[cond_false] at h
   split at h
   ·rename_i s' h2;exact⟨_,s',rfl,h2,h⟩
   ·cases h
  ·rw[cond_true] at h
   split at h
   ·rename_i s' h2;exact⟨_,s',rfl,h2,h⟩
   ·cases h
 ·rename_i hb
  split at h
  ·rename_i s' h2;exact⟨v,s',asB_none hb,h2,h⟩
  ·cases h
theorem cGot_path {o:Oper} {s:Tr Value} {σ:St} {r:Option OpR} {k:Tr Value→St→Foot→Option α} (h:cGot call nt o s σ r k=some y):
  ∃s' σ' φ,k s' σ' φ=some y∧((∃r',r=some (.val r')∧∃v,resolve r'.v r'.σ=some (v,σ')∧aPut nt s o.dst v=some s'∧φ=r'.φ)∨
   ∃f args v0 σ1 v,r=some (.enter f args)∧call f args σ=some (v0,σ1,φ)∧resolve v0 σ1=some (v,σ')∧aPut nt s o.dst v=some s'):=by
 unfold cGot at h
 split at h
 ·rename_i r';obtain⟨u,s',h1,h2,h3⟩:=cPut_path h;exact⟨s',r'.σ,r'.φ,h3,.inl ⟨r',rfl,u,h1,h2,rfl⟩⟩
 ·rename_i f args
  split at h
  ·rename_i v0 σ1 φ h0;obtain⟨u,s',h1,h2,h3⟩:=cPut_path h;exact⟨s',σ1,φ,h3,.inr ⟨f,args,v0,σ1,u,rfl,h0,h1,h2⟩⟩
  ·cases h
 ·cases h
theorem cGot_step {all:List Oper} {o:Oper} {s:Tr Value} {σ:St} {k:Tr Value→St→Foot→Option α} (hw:aWanted all s o=some true) (h:cGot call nt o s σ (aOpS P E s σ o) k=some y):
  ∃s' σ' φ,aStep P E call nt all o s σ=some (s',σ',φ)∧k s' σ' φ=some y:=by
 obtain⟨s',σ',φ,h1,h2⟩:=cGot_path h;refine⟨s',σ',φ,?_,h1⟩;unfold aStep;rw[hw];rcases h2 with⟨r',e1,v,e2,e3,e4⟩|⟨f,args,v0,σ1,v,e1,e2,e3,e4⟩
 ·simp only[e1,e2,e3,e4]
 ·simp only[e1,e2,e3,e4]
theorem aOpS_pick {o:Oper} {s:Tr Value} {σ:St} {c a b:Operand} {t:Bool} (ho:o.op=.pick c a b) (ht:av E.G s c=some (.bool t)) {r:OpR} (h:pureV σ (av E.G s (bif t then a else b))=some r):aOpS P E s σ o=some r:=by
 have e1:vOp E s σ o=none:=by unfold vOp;rw[ho]
 have e2:aOp P E s σ o=some r:=by
  unfold aOp;rw[ho];simp only[ht];cases t<;>exact h
 unfold aOpS aOpS0;rw[e1,e2]
theorem cGot_pick {all:List Oper} {o:Oper} {s:Tr Value} {σ:St} {c a b:Operand} {t:Bool} {k:Tr Value→St→Foot→Option α} (ho:o.op=.pick c a b) (ht:av E.G s c=some (.bool t)) (hw:aWanted all s o=some true)
  (h:cGot call nt o s σ (pureV σ (av E.G s (bif t then a else b))) k=some y):∃s' σ' φ,aStep P E call nt all o s σ=some (s',σ',φ)∧k s' σ' φ=some y:=by
 cases hx:pureV σ (av E.G s (bif t then a else b)) with
 |none=>rw[hx] at h;simp[cGot] at h
 |some r=>
  rw[hx] at h;exact cGot_step hw (by rw[aOpS_pick ho ht hx];exact h)
theorem cSplit_path {g:Int→Option OpR} {n:Int} {K:Option OpR→Option α}:∀{m j:Nat},cSplit g n K m j=some y→K (g n)=some y
 |0,_,h=>by cases h
 |m+1,j,h=>by
  unfold cSplit at h;cases hb:n==(Int.ofNat j)
  ·rw[hb,cond_false] at h;exact cSplit_path h
  ·rw[hb,cond_true] at h;have:n=Int.ofNat j:=by simpa using hb
   rw[this];exact h
theorem rSplit_op {o:Oper} {s:Tr Value} {σ:St} {t:TypeId} {x i:Operand} {kd:IntKind} {n:Int} {len:Nat} {v:Value} (ho:o.op=.indexAddr t x i) (h:rSplit E s t x i=some (kd,n,len,v)):
  aOpS P E s σ o=memV (aIndexAddr E.T σ t v (.int kd n)):=by
 unfold rSplit at h
 split at h
 ·rename_i v' a hv ha;have e1:vOp E s σ o=none:=by unfold vOp;rw[ho]
  have key:∀(hd:∀b,v'≠ .tuple b),unsy (.tuple a)=some (.int kd n)→v'=v→aOpS P E s σ o=memV (aIndexAddr E.T σ t v (.int kd n)):=by
   rintro hd hu rfl;have e2:aOp P E s σ o=none:=by unfold aOp;rw[ho];simp only[hv,ha];rfl
   have e3:sIndexAddr E.T σ t v' (.tuple a)=none:=by
    unfold sIndexAddr
    split
    ·exact absurd rfl (hd _)
    ·rfl
   unfold aOpS aOpS0;rw[e1,e2];unfold symOp;rw[ho];simp only[hv,ha,rIndexAddr,e3,hu]
  split at h
  all_goals first
   |(cases h;done)
   |(rename_i hu _
     simp only[Option.some.injEq,Prod.mk.injEq] at h;obtain⟨rfl,rfl,rfl,rfl⟩:=h;exact key (fun b hb=>by cases hb) (by assumption) rfl)
 ·cases h
theorem cStep_path {all:List Oper} {o:Oper} {s:Tr Value} {σ:St} {k:Tr Value→St→Foot→Option α} (h:cStep P E call nt all o s σ k=some y):
  ∃s' σ' φ,aStep P E call nt all o s σ=some (s',σ',φ)∧k s' σ' φ=some y:=by
 unfold cStep at h
 split at h
 ·rename_i b hb;rw[cWant_eq] at hb;cases b
  ·rw[cond_false] at h
   split at h
   ·rename_i s' h1;refine⟨s',σ,.nil,?_,h⟩;unfold aStep;simp only[hb,h1]
   ·cases h
  ·rw[cond_true] at h;unfold cRun at h
   split at h
   ·rename_i c a b ho
    split at h
    ·rename_i t ht;cases t
     ·exact cGot_pick ho ht hb h
     ·exact cGot_pick ho ht hb h
    ·cases h
   ·rename_i t x i ho
    split at h
    ·rename_i kd n len v hr;exact cGot_step hb (by rw[rSplit_op ho hr];exact cSplit_path (K:=fun r=>cGot call nt o s σ r k) h)
    ·exact cGot_step hb h
   ·exact cGot_step hb h
 ·cases h
theorem cOps_path {all:List Oper}:∀{os:List Oper} {s:Tr Value} {σ:St} {k:Tr Value→St→Option α},cOps P E call nt all os s σ k=some y→
  ∃s' σ' φ,evOps P E call nt all os s σ=some (s',σ',φ)∧k s' σ'=some y
 |[],s,σ,k,h=>⟨s,σ,.nil,rfl,h⟩
 |o::os,s,σ,k,h=>by
  obtain⟨s1,σ1,φ1,h1,h2⟩:=cStep_path h;obtain⟨s2,σ2,φ2,h3,h4⟩:=cOps_path h2;exact⟨s2,σ2,φ1.add φ2,by simp only[evOps,h1,h3],h4⟩
theorem cSteps_path {all:List Oper}:∀{os:List Oper} {s:Tr Value} {σ:St} {k:Tr Value→St→List Rec→Option α},cSteps P E call nt all os s σ k=some y→
  ∃s' σ' rs,evSteps P E call nt all os s σ=some (s',σ',rs)∧k s' σ' rs=some y
 |[],s,σ,k,h=>⟨s,σ,[],rfl,h⟩
 |o::os,s,σ,k,h=>by
  obtain⟨s1,σ1,φ1,h1,h2⟩:=cStep_path h;obtain⟨s2,σ2,rs,h3,h4⟩:=cSteps_path h2;exact⟨s2,σ2,_,by simp only[evSteps,h1,h3],h4⟩
end
def St.clean (σ:St):St:=⟨σ.heap,σ.next,[],[]⟩
abbrev Shapes:Type:=Code→Option (List (Nat×Sh))
abbrev Rest (α:Type):Type:=Code→List Kt→List (Nat×Value)→List AO→Option α
section
variable (P:Program) (E:Env) (pins:List Nat) (sh:Shapes) {α:Type} (rec:Rest α) (fin:Exit→Tr Value→St→Option α) (m nt:Nat)
def zc:Nat→Pl→Tr Value→St→Option α
 |0,_,_,_=>none
 |n+1,.run c ks,s,σ=>match c with
  | .skip=>zc n (.out .normal ks) s σ
  | .label _=>zc n (.out .normal ks) s σ
  | .ret=>zc n (.out .ret ks) s σ
  | .exit id=>zc n (.out (.exit id) ks) s σ
  | .goto l=>zc n (.out (.goto l) ks) s σ
  | .region _ ops false=>cOps P E (evCall P E m) nt ops.toList ops.toList s σ.clean fun s' σ'=>gd σ'.pc (zc n (.out .normal ks) s' σ'.clean)
  | .region _ ops true=>cSteps P E (evCall P E m) nt ops.toList ops.toList s σ.clean fun s' σ' recs=>bif okAll ops ops.toList recs [] ops.toList recs then gd σ'.pc (zc n (.out .normal ks) s' σ'.clean) else none
  | .seq u v=>zc n (.run u (.seq v::ks)) s σ
  | .cond c u v=>match av E.G s c with
    |some (.bool b)=>bif b then zc n (.run u ks) s σ else zc n (.run v ks) s σ
    |_=>none
  | .block id b=>zc n (.run b (.block id::ks)) s σ
  | .loop b=>zc n (.head b ks) s σ
  | .scope b=>zc n (.run b (.scope b::ks)) s σ
  |_=>none
 |n+1,.head b ks,s,σ=>match sh b with
  |some shs=>match canon E pins shs s σ with
   |some (l,objs)=>rec b ks l objs
   |none=>none
  |none=>zc n (.run b (.loop b::ks)) s σ
 |_+1,.out e [],s,σ=>fin e s σ
 |n+1,.out e (k::ks),s,σ=>match k with
  | .seq d=>match e with
    | .normal=>zc n (.run d ks) s σ
    |e=>zc n (.out e ks) s σ
  | .block id=>match e with
    | .exit id'=>bif Nat.beq id' id then zc n (.out .normal ks) s σ else zc n (.out (.exit id') ks) s σ
    |e=>zc n (.out e ks) s σ
  | .loop b=>match e with
    | .normal=>zc n (.head b ks) s σ
    |e=>zc n (.out e ks) s σ
  | .scope b=>match e with
    | .goto l=>match findLabel b l with
      |some rest=>zc n (.run rest (.scope b::ks)) s σ
      |none=>zc n (.out (.goto l) ks) s σ
    |e=>zc n (.out e ks) s σ
def zG (N:Nat) (n:Nat):Rest α:=
 Nat.rec (fun _ _ _ _=>none) (fun _ ih b ks l objs=>zc P E pins sh ih fin m nt N (.run b (.loop b::ks)) (mkS l) (mkSt E objs [])) n
end
section
variable {P:Program} {E:Env} (hE:E.OK P) {pin:List (Nat×Reg)} {sh:Shapes} {α:Type} {rec:Rest α} {fin:Exit→Tr Value→St→Option α} {m nt:Nat} {y:α} {Q:World→Exit→Act→World→Prop} {own0 z0:World→Nat→Prop}
 (hfin:∀e s σ,fin e s σ=some y→At P E nt pin Q own0 z0 (.out e []) s σ)
theorem at_clean {p:Pl} {s:Tr Value} {σ:St} (h:At P E nt pin Q own0 z0 p s σ.clean):At P E nt pin Q own0 z0 p s σ:=h
include hE hfin
theorem zc_sound (hrec:∀b ks l objs,rec b ks l objs=some y→At P E nt pin Q own0 z0 (.head b ks) (mkS l) (mkSt E objs [])):
  ∀(n:Nat) (p:Pl) (s:Tr Value) (σ:St),zc P E (pin.map (·.1)) sh rec fin m nt n p s σ=some y→At P E nt pin Q own0 z0 p s σ
 |0,p,s,σ,h=>by simp[zc] at h
 |n+1,.run c ks,s,σ,h=>by
  have ih:=zc_sound hrec n;have hC:CallSound P E (evCall P E m):=evCall_sound hE m;cases c with
  |skip=>exact fun w0 a w hs=>wp_skip (ih _ _ _ h w0 a w hs)
  |label l=>exact fun w0 a w hs=>wp_label (ih _ _ _ h w0 a w hs)
  |ret=>exact fun w0 a w hs=>wp_ret (ih _ _ _ h w0 a w hs)
  |exit id=>exact fun w0 a w hs=>wp_exit (ih _ _ _ h w0 a w hs)
  |goto l=>exact fun w0 a w hs=>wp_goto (ih _ _ _ h w0 a w hs)
  |region id ops draw=>
   refine at_clean ?_;cases draw with
   |false=>
    simp only[zc] at h;obtain⟨s1,σ1,φ1,h1,h2⟩:=cOps_path h;obtain⟨hok1,h2⟩:=gd_some h2;obtain⟨a1,a2,a3⟩:=evOps_sound hE hC ops.toList 0 _ _ _ _ _ h1 fun j _=>by simp
    refine fun w0 a w hs=>wp_region ?_
    obtain⟨D,ι,hwf,hG,hD,hsr,hall,hdf,q1,q2,q3,q4,q5,q6,q7⟩:=hs;have:=a3 hwf hok1 D ι w a (aft P ks (Q w0)) hwf hG (fun id hr hx=>by have:=hD id hx;simp only[St.rng] at hr;omega) hsr (hall.on _) fun ι' w' a' g1 g2 g3=>
     ih _ _ _ h2 w0 a' w' (Asrt.step hwf hG hD hall hdf q1 q2 q3 q4 q5 q6 q7 a1 (a2 hwf).1 g1 g2 g3)
    rw[List.range_eq_range'];simpa using this
   |true=>
    simp only[zc] at h;obtain⟨s1,σ1,recs,h1,h2⟩:=cSteps_path h;cases hb:okAll ops ops.toList recs [] ops.toList recs
    ·rw[hb] at h2;cases h2
    rw[hb,cond_true] at h2;obtain⟨hok1,h2⟩:=gd_some h2;obtain⟨a1,a2,a3⟩:=evDraw_sound hE hC h1 hb;refine fun w0 a w hs=>wp_region_any hE.mixed ?_
    obtain⟨D,ι,hwf,hG,hD,hsr,hall,hdf,q1,q2,q3,q4,q5,q6,q7⟩:=hs;have hall2:HAll P D ι σ.clean.H { w with drawn:=w.drawn+1}:=⟨hall.hd,hall.ce,hall.inj⟩
    exact a3 hok1 D ι _ a (aft P ks (Q w0)) hwf hG (fun id hr hx=>by have:=hD id hx;simp only[St.rng] at hr;omega) hsr (hall2.on _) fun ι' w' a' g1 g2 g3=>
     ih _ _ _ h2 w0 a' w' (Asrt.step (w:={ w with drawn:=w.drawn+1}) hwf hG hD hall2 hdf q1 q2 q3 q4 q5 q6 q7 a1 (a2 hwf).1 g1 g2 g3)
  |seq u v=>exact fun w0 a w hs=>wp_seq (ih _ _ _ h w0 a w hs)
  |cond cnd u v=>
   simp only[zc] at h;have hc:∀b,av E.G s cnd=some (.bool b)→∀w0 a w,Asrt P E nt pin w0 (own0 w0) (z0 w0) s σ a w→a.eval cnd=.bool b:=by
    rintro b hb w0 a w ⟨D,ι,_,hG,_,hs,_⟩;have hr:Rel E.G D ι s a.eval cnd:=rel_of hG.b fun t _ v hv=>(hs.2 t v hv).2
    have:=hr _ hb;generalize a.eval cnd=z at this;cases this;rfl
   split at h
   ·rename_i b hb;cases b
    ·exact fun w0 a w hs=>wp_cond_false (hc _ hb w0 a w hs) (ih _ _ _ h w0 a w hs)
    ·exact fun w0 a w hs=>wp_cond_true (hc _ hb w0 a w hs) (ih _ _ _ h w0 a w hs)
   ·cases h
  |block id b=>exact fun w0 a w hs=>wp_block (ih _ _ _ h w0 a w hs)
  |loop b=>exact fun w0 a w hs=>wp_loop_of (ih _ _ _ h w0 a w hs)
  |scope b=>exact fun w0 a w hs=>wp_scope_of (wpS_of (ih _ _ _ h w0 a w hs))
  |rangeFunc f ps as b=>simp[zc] at h
  |refuse why=>simp[zc] at h
 |n+1,.head b ks,s,σ,h=>by
  have ih:=zc_sound hrec n;simp only[zc] at h
  split at h
  ·split at h
   ·rename_i l objs hc;exact fun w0 a w hs=>hrec _ _ _ _ h w0 a w (canon_sound hE hc hs)
   ·cases h
  ·exact fun w0 a w hs=>wpL_of (ih _ _ _ h w0 a w hs)
 |n+1,.out e [],s,σ,h=>hfin e s σ h
 |n+1,.out e (k::ks),s,σ,h=>by
  have ih:=zc_sound hrec n;simp only[zc] at h
  split at h
  ·split at h
   ·exact fun w0 a w hs=>ih _ _ _ h w0 a w hs
   ·rename_i hno;intro w0 a w hs;have:=ih _ _ _ h w0 a w hs;cases e<;>first|exact this|exact absurd rfl hno
  ·split at h
   ·rename_i id _ id';cases hb:Nat.beq id' id
    ·rw[hb,cond_false] at h;have hne:id'≠id:=fun e=>by rw[beq_t e] at hb;cases hb
     intro w0 a w hs;show Exit.inBlock id _ (.exit id') a w;simp only[Exit.inBlock,hne,if_false];exact ih _ _ _ h w0 a w hs
    ·rw[hb,cond_true] at h;have he:=Nat.eq_of_beq_eq_true hb;subst he;intro w0 a w hs;show Exit.inBlock _ _ (.exit _) a w;simp only[Exit.inBlock,if_true];exact ih _ _ _ h w0 a w hs
   ·rename_i hno;intro w0 a w hs;have:=ih _ _ _ h w0 a w hs;cases e<;>first|exact this|exact absurd rfl (hno _)
  ·split at h
   ·exact fun w0 a w hs=>ih _ _ _ h w0 a w hs
   ·rename_i hno;intro w0 a w hs;have:=ih _ _ _ h w0 a w hs;cases e<;>first|exact this|exact absurd rfl hno
  ·split at h
   ·rename_i b _ l
    split at h
    ·rename_i rest hf;intro w0 a w hs;show Exit.inScope P _ _ (.goto l) a w;simp only[Exit.inScope,hf];exact wpS_of (ih _ _ _ h w0 a w hs)
    ·rename_i hf;intro w0 a w hs;show Exit.inScope P _ _ (.goto l) a w;simp only[Exit.inScope,hf];exact ih _ _ _ h w0 a w hs
   ·rename_i hno;intro w0 a w hs;have:=ih _ _ _ h w0 a w hs;cases e<;>first|exact this|exact absurd rfl (hno _)
theorem zG_sound {N:Nat}:∀(n:Nat) (b:Code) (ks:List Kt) (l:List (Nat×Value)) (objs:List AO),zG P E (pin.map (·.1)) sh fin m nt N n b ks l objs=some y→At P E nt pin Q own0 z0 (.head b ks) (mkS l) (mkSt E objs [])
 |0,_,_,_,_,h=>by cases h
 |n+1,b,ks,l,objs,h=>fun w0 a w hs=>wpL_of (zc_sound hE hfin (zG_sound n) N (.run b (.loop b::ks)) (mkS l) (mkSt E objs []) h w0 a w hs)
end
def dfltL:(ts:List Ty)→DenL ts
 |[]=>()
 |t::ts=>(t.dflt,dfltL ts)
def ofO (ts rs:List Ty) (g:DenL ts→Option (DenL rs)):PSpec:=⟨ts,rs,fun x=>(g x).isSome,fun x=>(g x).getD (dfltL rs)⟩
def finO (E:Env) (fn:Func) (rs:List Ty) (e:Exit) (s:Tr Value) (σ:St):Option (DenL rs):=
 match zfin E fn rs (.out e [],s,σ) with
 |some (y,ps)=>gd ps (some y)
 |none=>none
def heads0:Nat:=1606938044258990275541962092341162602522202993782792835301376
def fON (P:Program) (E:Env) (sh:Shapes) (fn:Func) (ts rs:List Ty) (N:Nat) (x:DenL ts):Option (DenL rs):=
 match mat (dcsL ts x) (glSt E) with
 |(vs,σ)=>zc P E [] sh (zG P E [] sh (finO E fn rs) 1000 fn.ntmps 1000 N) (finO E fn rs) 1000 fn.ntmps 1000 (.run (bodyOf fn) []) (initS 0 (grp ts vs) .lf) σ
def fO (P:Program) (E:Env) (sh:Shapes) (fn:Func) (ts rs:List Ty) (x:DenL ts):Option (DenL rs):=fON P E sh fn ts rs heads0 x
def rO (P:Program) (E:Env) (sh:Shapes) (fn:Func) (rs:List Ty) (n:Nat):Rest (DenL rs):=zG P E [] sh (finO E fn rs) 1000 fn.ntmps 1000 n
section
variable {P:Program} {E:Env} (hE:E.OK P)
include hE
theorem finO_at {nt:Nat} {fz0:Nat→Option (Array Value)} {fn:Func} {rs:List Ty} {y:DenL rs} (e:Exit) (s:Tr Value) (σ:St) (h:finO E fn rs e s σ=some y):
  At P E nt [] (QP P fn rs y fz0) (fun _ _=>False) (fun _ b=>∃c,fz0 b=some c) (.out e []) s σ:=by
 unfold finO at h
 split at h
 ·rename_i y' ps hz;obtain⟨h1,h2⟩:=gd_some h;cases h2;exact zfin_at hE hz h1
 ·cases h
theorem pureO (hne:∀p,p∈E.gl→p.2≠[]) {sh:Shapes} {ts rs:List Ty} {f:FuncId} {fn:Func} (hfn:P.funcs[f]?=some fn) (hb:fn.body.isSome=true) (hnt:ts.length≤fn.ntmps):PureC P E.gl f (ofO ts rs (fO P E sh fn ts rs)):=by
 obtain⟨body,hb⟩:=Option.isSome_iff_exists.1 hb;refine pure_of hE hne hfn hb hnt fun x hx fz0=>⟨[],?_⟩
 have hx:(fO P E sh fn ts rs x).isSome=true:=hx;obtain⟨y,hy⟩:=Option.isSome_iff_exists.1 hx;have hg:(ofO ts rs (fO P E sh fn ts rs)).g x=y:=by show(fO P E sh fn ts rs x).getD _=y;rw[hy];rfl
 rw[hg];rw[show body=bodyOf fn by simp only[bodyOf,hb]];exact zc_sound hE (pin:=[]) (finO_at hE) (zG_sound hE (pin:=[]) (finO_at hE) heads0) 1000 _ _ _ hy
end
theorem PureC.nice {P:Program} {gl:List (Nat×List Value)} {f:FuncId} {ts rs:List Ty} {g:DenL ts→Option (DenL rs)} (h:PureC P gl f (ofO ts rs g)) {pre:DenL ts→Bool} {n:DenL ts→DenL rs} (hn:∀x,pre x=true→g x=some (n x)):PureC P gl f ⟨ts,rs,pre,n⟩:=by
 intro fz w args x hz hgl hrd hpre;have hpre:pre x=true:=hpre;have e:=hn x hpre;have:=h fz w args x hz hgl hrd (by show(g x).isSome=true;rw[e];rfl);have e2:(ofO ts rs g).g x=n x:=by show(g x).getD _=n x;rw[e];rfl
 rw[e2] at this;exact this
end Go.Eng
namespace Go.Eng
open Go
def tyE (T:TE):Nat→TypeId→Option Ty
 |0,_=>none
 |n+1,t=>match T.und t with
  |some (.int .u8)=>some .byte
  |some (.int k)=>some (.int k)
  |some .bool=>some .bool
  |some .string=>some .str
  |some (.slice e)=>match tyE T n e with
   |some a=>some (.slice a)
   |none=>none
  |some (.struct fs)=>fs.toList.foldr (fun f r=>match tyE T n f.type,r with
   |some a,some b=>some (.pair a b)
   |_,_=>none) (some .unit)
  |_=>none
def fstReg:Code→Option Nat
 | .region id _ _=>some id
 | .seq a b=>match fstReg a with
   |some i=>some i
   |none=>fstReg b
 | .cond _ a b=>match fstReg a with
   |some i=>some i
   |none=>fstReg b
 | .block _ b=>fstReg b
 | .loop b=>fstReg b
 | .scope b=>fstReg b
 |_=>none
def lookN {α:Type}:List (Nat×α)→Nat→Option α
 |[],_=>none
 |(j,x)::r,i=>bif Nat.beq i j then some x else lookN r i
def shOf (l:List (Nat×List (Nat×Sh))):Shapes:=fun b=>match fstReg b with
 |some i=>lookN l i
 |none=>none
def atHead {α:Type} (r:Rest α):Pl→List (Nat×Value)→List AO→Option α
 | .head b ks,l,o=>r b ks l o
 |_,_,_=>none
def rH (P:Program) (E:Env) (sh:Shapes) (fn:Func) (rs:List Ty) (n k:Nat) (l:List (Nat×Value)) (objs:List AO):Option (DenL rs):=atHead (rO P E sh fn rs n) (hdN fn k) l objs
end Go.Eng
end
end
end
section
noncomputable section
noncomputable section
namespace Go.Eng
open Go
def reach:Nat:=140737488355328
def Bd:(t:Ty)→t.Den→Prop
 | .int k,n=>inK k n
 | .str,s=>s.length≤reach
 | .pair a b,x=>Bd a x.1∧Bd b x.2
 | .slice a,xs=>xs.length≤reach∧∀x,x∈xs→Bd a x
 |_,_=>True
def BdL:(ts:List Ty)→DenL ts→Prop
 |[],_=>True
 |t::ts,x=>Bd t x.1∧BdL ts x.2
def tyFs (g:TypeId→Option Ty):List Field→Nat→Option Ty
 |[],_=>some .unit
 |f::r,o=>match g f.type with
  |some a=>bif Nat.beq f.offset o then(match tyFs g r (o+a.sz) with
   |some b=>some (.pair a b)
   |none=>none) else none
  |none=>none
def tyArr (a:Ty):Nat→Ty
 |0=>.unit
 |n+1=>.pair a (tyArr a n)
def tyX (T:TE):Nat→TypeId→Option Ty
 |0,_=>none
 |n+1,t=>match T.und t,T.inf t with
  |some d,some i=>match d with
   | .bool=>bif Nat.beq i.size 1 then some .bool else none
   | .int .u8=>bif Nat.beq i.size 1 then some .byte else none
   | .int k=>bif Nat.beq i.size 1 then some (.int k) else none
   | .string=>bif Nat.beq i.size 1 then some .str else none
   | .slice e=>match tyX T n e,T.inf e with
     |some a,some j=>bif Nat.beq i.size 1&&(!Nat.beq j.bytes 0&& !Nat.beq a.sz 0) then some (.slice a) else none
     |_,_=>none
   | .struct fs=>match tyFs (tyX T n) fs.toList 0 with
     |some a=>bif Nat.beq a.sz i.size then some a else none
     |none=>none
   | .array q e=>match tyX T n e with
     |some a=>bif Nat.beq (tyArr a q).sz i.size then some (tyArr a q) else none
     |none=>none
   |_=>none
  |_,_=>none
theorem tyArr_agg (a:Ty) (n:Nat):(tyArr a n).agg=true:=by cases n<;>rfl
theorem tyArr_sz (a:Ty):∀n,(tyArr a n).sz=n*a.sz
 |0=>by simp[tyArr,Ty.sz]
 |n+1=>by simp only[tyArr,Ty.sz,tyArr_sz a n,Nat.succ_mul];omega
def fzW (w:World) (b:Nat):Option (Array Value):=match w.heap[b]? with
 |some (.cells c _ _)=>some c
 |_=>none
theorem fzW_ok (w:World):FzOK (fzW w) w:=by
 intro b c h;unfold fzW at h
 split at h
 ·rename_i c' e fr hh;cases h;exact⟨e,fr,hh⟩
 ·cases h
section
variable {P:Program} {T:TE} (hT:T.OK P) {w:World} {sp:Nat→Bool} {held:Bool} {H:Type} {enc:TypeId×Value→H}
include hT
theorem cellsOf_inf {t:TypeId} {i:TypeInfo} (h:T.inf t=some i):P.cellsOf t=i.size:=by
 unfold Program.cellsOf;rw[hT.inf t i h];rfl
theorem bytesOf_inf {t:TypeId} {i:TypeInfo} (h:T.inf t=some i):P.bytesOf t=i.bytes:=by
 unfold Program.bytesOf;rw[hT.inf t i h];rfl
theorem tyX_sz:∀{n:Nat} {t:TypeId} {a:Ty},tyX T n t=some a→P.cellsOf t=a.sz
 |0,_,_,h=>by cases h
 |n+1,t,a,h=>by
  simp only[tyX] at h
  split at h
  ·rename_i d i hd hi;rw[cellsOf_inf hT hi];simp only[Bool.cond_eq_ite] at h
   split at h
   all_goals try (split at h<;>first|(rename_i hb;cases h;exact Nat.eq_of_beq_eq_true hb)|cases h)
   ·split at h
    ·split at h
     ·rename_i hb;cases h;rw[Bool.and_eq_true] at hb;exact Nat.eq_of_beq_eq_true hb.1
     ·cases h
    ·cases h
   ·split at h
    ·split at h
     ·rename_i hb;cases h;exact(Nat.eq_of_beq_eq_true hb).symm
     ·cases h
    ·cases h
   ·split at h
    ·split at h
     ·rename_i hb;cases h;exact(Nat.eq_of_beq_eq_true hb).symm
     ·cases h
    ·cases h
   ·cases h
  ·cases h
omit hT in
theorem cells_of {b n:Nat} {a:Addr} {cs:List Value} (h:w.cells? b a n=some cs) (hn:0<n):∃arr,fzW w a.block=some arr∧a.spot=none∧a.off+n≤arr.size∧cs=(arr.toList.drop a.off).take n:=by
 unfold World.cells? at h
 split at h
 ·have hl:=mapM_some_length h;simp only[List.length_range] at hl;obtain⟨blk,off,spot⟩:=a;have hc:∀i,i<n→w.cell? (Addr.add ⟨blk,off,spot⟩ i)=cs[i]?:=fun i hi=>mapM_some_get h i i (by simp[hi])
  have h0:w.cell? ⟨blk,off,spot⟩=cs[0]?:=by
   have:=hc 0 hn;simpa[Addr.add] using this
  have hs:spot=none:=by
   rw[List.getElem?_eq_getElem (show 0<cs.length by omega)] at h0;simp only[World.cell?] at h0
   split at h0
   ·cases spot with
    |none=>rfl
    |some q=>simp at h0
   ·cases h0
  subst hs;have hc:∀i,i<n→w.cell? ⟨blk,off+i,none⟩=cs[i]?:=fun i hi=>by have:=hc i hi;rwa[add_none] at this
  cases hh:w.heap[blk]? with
  |none=>
   have:=hc 0 hn;simp only[World.cell?,hh] at this;rw[List.getElem?_eq_getElem (by omega)] at this;simp at this
  |some o=>
   cases o with
   |cells arr e fr=>
    have key:∀i,i<n→arr[off+i]?=cs[i]?:=fun i hi=>by
     have:=hc i hi;simpa[World.cell?,hh] using this
    have hlast:off+n≤arr.size:=by
     have:=key (n-1) (by omega);rw[List.getElem?_eq_getElem (by omega)] at this;rcases Nat.lt_or_ge (off+(n-1)) arr.size with h|h
     ·omega
     ·rw[Array.getElem?_eq_none h] at this;cases this
    refine⟨arr,by simp[fzW,hh],rfl,hlast,?_⟩;apply List.ext_getElem?;intro i;rw[List.getElem?_take]
    split
    ·rename_i hi;rw[List.getElem?_drop];exact(key i hi).symm.trans (Array.getElem?_toList).symm
    ·rw[List.getElem?_eq_none (by omega)]
   |_=>
    have:=hc 0 hn;simp only[World.cell?,hh] at this;rw[List.getElem?_eq_getElem (by omega)] at this;simp at this
 ·cases h
theorem trod_rd:∀(m:Nat) (t:TypeId) (a:Ty),tyX T m t=some a→∀(n:Nat) (cs:List Value) (x:DataW H×List MemPlace),DataW.trod enc P w 0 (fun _=>true) held n t cs=some x→(∀z,z∈x.1.weights P t→z≤reachBytes)→
  ∃y:a.Den,RdC (fzW w) a y cs∧Bd a y
 |0,_,_,h,_,_,_,_,_=>by cases h
 |m+1,t,a,h,n,cs,x,hx,hw=>by
  have ih:=trod_rd m;simp only[tyX] at h
  split at h
  ·rename_i d i hd hi;have hu:=hT.und t d hd
   split at h
   ·cases hb:Nat.beq i.size 1<;>rw[hb] at h<;>cases h;obtain⟨b,rfl, -⟩:=DataW.trod_bool hu hx;exact⟨b,rfl,trivial⟩
   ·cases hb:Nat.beq i.size 1<;>rw[hb] at h<;>cases h;obtain⟨k,rfl, -,hwf⟩:=DataW.trod_int hu hx;simp only[Lit.wf,Bool.and_eq_true,decide_eq_true_eq] at hwf;have hk:inK .u8 k:=hwf;exact⟨UInt8.ofNat k.toNat,by simp only[RdC];rw[←u8_back hk],trivial⟩
   ·cases hb:Nat.beq i.size 1<;>rw[hb] at h<;>cases h;obtain⟨k,rfl, -,hwf⟩:=DataW.trod_int hu hx;simp only[Lit.wf,Bool.and_eq_true,decide_eq_true_eq] at hwf;exact⟨k,rfl,hwf⟩
   ·cases hb:Nat.beq i.size 1<;>rw[hb] at h<;>cases h;obtain⟨s,rfl,rfl, -⟩:=DataW.trod_string hu hx;refine⟨toL s,by simp only[RdC,bs_toL],?_⟩;have:=hw s.data.toList.length (by simp[DataW.weights]);have h2:reachBytes≤reach:=by decide
    exact Nat.le_trans this h2
   ·rename_i e
    split at h
    ·rename_i a' j ha hj;cases hb:(Nat.beq i.size 1&&(!Nat.beq j.bytes 0&& !Nat.beq a'.sz 0))<;>rw[hb] at h<;>cases h;rw[Bool.and_eq_true,Bool.and_eq_true] at hb;have hbytes:j.bytes≠0:=fun e=>by rw[beq_t e] at hb;cases hb.2.1
     have hz:0<a'.sz:=Nat.pos_of_ne_zero fun e=>by rw[beq_t e] at hb;cases hb.2.2
     have hsz:=tyX_sz hT ha;rcases DataW.trod_slice hu hx with⟨rfl, -⟩|⟨ad,len,cap,elems,rest,n',rfl,rfl,rfl, -,hlc, -,hel,hes, -, -⟩
     ·exact⟨[],⟨_,rfl,.inl ⟨⟨_,_,rfl⟩,rfl⟩⟩,by simp[reach],fun x h=>by cases h⟩
     ·simp only[DataW.weights,hu] at hw;have hlen:len≤reach:=by
       have:=hw _ (List.mem_cons_self ..);rw[bytesOf_inf hT hj] at this;have h2:reachBytes≤reach:=by decide
       have h3:(elems.map (·.1)).length=len:=by simpa using hel
       have h4:len*1≤((elems.map (·.1)).length+(rest.map (·.1)).length)*j.bytes:=Nat.mul_le_mul (by omega) (by omega);omega
      have hwe:∀(k:Nat) (z:DataW H×List MemPlace),elems[k]?=some z→∀u,u∈z.1.weights P e→u≤reachBytes:=fun k z hk u hu=>hw u (by
       refine List.mem_cons_of_mem _ (List.mem_append_left _ ?_);have hmem:z.1∈elems.map (·.1):=List.mem_map.2 ⟨z,List.mem_of_getElem? hk,rfl⟩;have gen:∀(l:List (DataW H)) d,d∈l→u∈d.weights P e→u∈DataW.weightsAll P e l:=by
        intro l
        induction l with
        |nil=>intro d h;cases h
        |cons d' l ihl=>
         intro d h hu;simp only[DataW.weightsAll,List.mem_append];rcases List.mem_cons.1 h with rfl|h
         ·exact .inl hu
         ·exact .inr (ihl d h hu)
       exact gen _ _ hmem hu)
      have each:∀k,k<len→∃y:a'.Den,∃cs,w.cells? 0 (ad.add (k*P.cellsOf e)) (P.cellsOf e)=some cs∧RdC (fzW w) a' y cs∧Bd a' y:=fun k hk=>by
       have h1:=hes k hk;rw[List.getElem?_eq_getElem (by omega)] at h1;obtain⟨cs,h2,h3⟩:=Option.bind_eq_some_iff.1 h1;obtain⟨y,h4,h5⟩:=ih e a' ha n' cs _ h3 (hwe k _ (List.getElem?_eq_getElem (by omega)));exact⟨y,cs,h2,h4,h5⟩
      by_cases h0:len=0
      ·subst h0;exact⟨[],⟨_,rfl,.inl ⟨⟨_,_,rfl⟩,rfl⟩⟩,by simp[reach],fun x h=>by cases h⟩
      ·classical
       let f:Nat→a'.Den:=fun k=>if hk:k<len then Classical.choose (each k hk) else a'.dflt
       have hf:∀k,k<len→∃cs,w.cells? 0 (ad.add (k*P.cellsOf e)) (P.cellsOf e)=some cs∧RdC (fzW w) a' (f k) cs∧Bd a' (f k):=fun k hk=>by
        have:=Classical.choose_spec (each k hk);simp only[f,dif_pos hk];exact this
       refine⟨(List.range len).map f,?_,by simpa using hlen,fun x hx=> ?_⟩
       ·refine⟨_,rfl,.inr ?_⟩;obtain⟨blk,off,spot⟩:=ad;rw[hsz] at hf;have hspot:spot=none:=by
         obtain⟨cs0,c1,c2, -⟩:=hf 0 (by omega);obtain⟨arr,d1,d2, -, -⟩:=cells_of c1 hz;simpa[Addr.add] using d2
        subst hspot;simp only[add_none] at hf;obtain⟨cs0,c1,c2, -⟩:=hf 0 (by omega);obtain⟨arr,d1, -, -, -⟩:=cells_of c1 hz;have d1:fzW w blk=some arr:=d1;refine⟨blk,off,cap,arr,by simp,d1,?_,by simpa using hlc,fun k y hk=> ?_⟩
        ·obtain⟨cs1,e1, -⟩:=hf (len-1) (by omega);obtain⟨arr',f1, -,f2, -⟩:=cells_of e1 hz;have f1:fzW w blk=some arr':=f1;rw[d1] at f1;cases f1;have f2:off+(len-1)*a'.sz+a'.sz≤arr.size:=f2;have:len*a'.sz=(len-1)*a'.sz+a'.sz:=by
          conv=>lhs;rw[show len=(len-1)+1 by omega,Nat.succ_mul]
         simp only[List.length_map,List.length_range];omega
        ·have hkl:k<len:=by have:=get_lt hk;simpa using this
         simp only[List.getElem?_map,List.getElem?_range hkl,Option.map_some,Option.some.injEq] at hk;subst hk;obtain⟨cs1,e1,e2, -⟩:=hf k hkl;obtain⟨arr',f1, -, -,f3⟩:=cells_of e1 hz;have f1:fzW w blk=some arr':=f1;rw[d1] at f1;cases f1;have f3:cs1=(arr.toList.drop (off+k*a'.sz)).take a'.sz:=f3;rw[←f3];exact e2
       ·obtain⟨k,hk,rfl⟩:=List.mem_map.1 hx;obtain⟨-, -, -,h⟩:=hf k (List.mem_range.1 hk);exact h
    ·cases h
   ·rename_i fs
    split at h
    ·rename_i a' ha;cases hb:Nat.beq a'.sz i.size<;>rw[hb] at h<;>cases h;have hb:=Nat.eq_of_beq_eq_true hb;obtain⟨xs,n',rfl,rfl,hl,hxl,hxs⟩:=DataW.trod_struct hu hx;rw[cellsOf_inf hT hi,←hb] at hl;simp only[DataW.weights,hu] at hw;have key:∀(fl:List Field) (o:Nat) (b:Ty) (ys:List (DataW H×List MemPlace)),tyFs (tyX T m) fl o=some b→ys.length=fl.length→(∀(k:Nat) f,fl[k]?=some f→DataW.trod enc P w 0 (fun _=>true) held n' f.type ((cs.drop f.offset).take (P.cellsOf f.type))=ys[k]?)→
       (∀z,z∈DataW.weightsEach P (fl.map (·.type)) (ys.map (·.1))→z≤reachBytes)→cs.length=o+b.sz→∃y:b.Den,RdC (fzW w) b y (cs.drop o)∧Bd b y:=by
      intro fl
      induction fl with
      |nil=>
       intro o b ys hty _ _ _ hlen;simp only[tyFs,Option.some.injEq] at hty;subst hty;exact⟨(),by simp only[RdC];exact List.drop_of_length_le (by simp only[Ty.sz] at hlen;omega),trivial⟩
      |cons f fl ihf=>
       intro o b ys hty hyl hys hws hlen;simp only[tyFs] at hty
       split at hty
       ·rename_i a1 ha1;cases hbo:Nat.beq f.offset o<;>rw[hbo] at hty
        ·cases hty
        rw[cond_true] at hty;have hbo:=Nat.eq_of_beq_eq_true hbo
        split at hty
        ·rename_i b1 hb1;cases hty;cases ys with
         |nil=>simp at hyl
         |cons y0 ys=>
          have h0:=hys 0 f rfl;rw[hbo,tyX_sz hT ha1] at h0;simp only[Ty.sz] at hlen;simp only[List.map_cons,DataW.weightsEach,List.mem_append] at hws;obtain⟨u1,q1,q2⟩:=ih f.type a1 ha1 n' _ y0 h0 fun z hz=>hws z (.inl hz)
          obtain⟨u2,q3,q4⟩:=ihf (o+a1.sz) b1 ys hb1 (by simpa using hyl) (fun k f' hk=>by simpa using hys (k+1) f' (by simpa using hk)) (fun z hz=>hws z (.inr hz)) (by omega);refine⟨(u1,u2),⟨_,_,?_,q1,q3⟩,q2,q4⟩;rw[←List.drop_drop];exact(List.take_append_drop _ _).symm
        ·cases hty
       ·cases hty
     have:=key fs.toList 0 a xs ha (by simpa using hxl) (fun k f hk=>hxs k f (by simpa using hk)) (by simpa using hw) (by omega);simpa using this
    ·cases h
   ·rename_i q e
    split at h
    ·rename_i a' ha;cases hb:Nat.beq (tyArr a' q).sz i.size<;>rw[hb] at h<;>cases h;have hb:=Nat.eq_of_beq_eq_true hb;obtain⟨xs,n',rfl,rfl,hl,hxl,hxs⟩:=DataW.trod_array hu hx;rw[cellsOf_inf hT hi,←hb,tyArr_sz] at hl;simp only[DataW.weights,hu] at hw;have hsz:=tyX_sz hT ha;have hwe:∀(z:DataW H×List MemPlace),z∈xs→∀u,u∈z.1.weights P e→u≤reachBytes:=fun z hz u hu'=>hw u (by
      have gen:∀(l:List (DataW H)) d,d∈l→u∈d.weights P e→u∈DataW.weightsAll P e l:=by
       intro l
       induction l with
       |nil=>intro d h;cases h
       |cons d' l ihl=>
        intro d h hu;simp only[DataW.weightsAll,List.mem_append];rcases List.mem_cons.1 h with rfl|h
        ·exact .inl hu
        ·exact .inr (ihl d h hu)
      exact gen _ _ (List.mem_map.2 ⟨z,hz,rfl⟩) hu')
     have key:∀(r o:Nat),o+r=q→∃y:(tyArr a' r).Den,RdC (fzW w) (tyArr a' r) y (cs.drop (o*a'.sz))∧Bd (tyArr a' r) y:=by
      intro r
      induction r with
      |zero=>
       intro o ho;refine⟨(),?_,trivial⟩;simp only[tyArr,RdC];exact List.drop_of_length_le (by rw[hl,←ho,Nat.add_zero];exact Nat.le_refl _)
      |succ r ihr=>
       intro o ho;have h1:=hxs o (by omega);rw[hsz,List.getElem?_eq_getElem (show o<xs.length by omega)] at h1;obtain⟨u1,q1,q2⟩:=ih e a' ha n' _ _ h1 (hwe _ (List.getElem_mem _));obtain⟨u2,q3,q4⟩:=ihr (o+1) (by omega);refine⟨(u1,u2),⟨_,_,?_,q1,q3⟩,q2,q4⟩;rw[Nat.succ_mul,←List.drop_drop];exact(List.take_append_drop _ _).symm
     have:=key q 0 (by omega);simpa using this
    ·cases h
   ·cases h
  ·cases h
def tyXL (T:TE) (m:Nat):List TypeId→Option (List Ty)
 |[]=>some []
 |t::ts=>match tyX T m t,tyXL T m ts with
  |some a,some as=>some (a::as)
  |_,_=>none
omit hT in
theorem tyFs_agg {g:TypeId→Option Ty}:∀{fl:List Field} {o:Nat} {a:Ty},tyFs g fl o=some a→a.agg=true
 |[],o,a,h=>by simp only[tyFs,Option.some.injEq] at h;subst h;rfl
 |f::r,o,a,h=>by
  simp only[tyFs,Bool.cond_eq_ite] at h
  repeat' split at h
  all_goals first|(cases h;rfl)|cases h
theorem arg_rd {m:Nat} {t:TypeId} {a:Ty} (ha:tyX T m t=some a) {v:Value} {base:Nat} (hv:Value.okWide P w .any base t v) {d:DataW H} {ps:List MemPlace} (h:DataW.Trod enc P w 0 (fun _=>true) held t v d ps) (hw:∀z,z∈d.weights P t→z≤reachBytes):
  ∃y:a.Den,RdV (fzW w) a y v∧Bd a y:=by
 obtain⟨n,hn⟩:=h;obtain⟨y,h1,h2⟩:=trod_rd hT m t a ha n _ _ hn hw;refine⟨y,?_,h2⟩;cases m with
 |zero=>cases ha
 |succ m=>
  simp only[tyX] at ha
  split at ha
  ·rename_i d' i hd hi;have hu:=hT.und t d' hd;unfold Value.okWide at hv;rw[hu] at hv;have one:(∀cs,v≠ .agg cs)→a.agg=false→RdV (fzW w) a y v:=fun hne hag=>by
    have:v.cells.toList=[v]:=by cases v<;>first|rfl|exact absurd rfl (hne _)
    rw[this] at h1;exact .inr ⟨hag,h1⟩
   have nagg:∀(d0:TypeDesc),d0=d'→(∀fs,d0≠ .struct fs)→(∀n e,d0≠ .array n e)→Cell.okWide P w .any base t v→∀cs,v≠ .agg cs:=by
    rintro d0 rfl _ _ hc cs rfl;unfold Cell.okWide Cell.ok at hc;rw[hu] at hc;cases d0<;>exact hc
   split at ha
   ·cases hb:Nat.beq i.size 1<;>rw[hb] at ha<;>cases ha;exact one (nagg _ rfl (by simp) (by simp) hv) rfl
   ·cases hb:Nat.beq i.size 1<;>rw[hb] at ha<;>cases ha;exact one (nagg _ rfl (by simp) (by simp) hv) rfl
   ·cases hb:Nat.beq i.size 1<;>rw[hb] at ha<;>cases ha;exact one (nagg _ rfl (by simp) (by simp) hv) rfl
   ·cases hb:Nat.beq i.size 1<;>rw[hb] at ha<;>cases ha;exact one (nagg _ rfl (by simp) (by simp) hv) rfl
   ·simp only[Bool.cond_eq_ite] at ha
    split at ha
    ·split at ha
     ·cases ha;exact one (nagg _ rfl (by simp) (by simp) hv) rfl
     ·cases ha
    ·cases ha
   ·split at ha
    ·rename_i a' ha';cases hb:Nat.beq a'.sz i.size<;>rw[hb] at ha<;>cases ha;obtain⟨cs,rfl, -⟩:=hv;exact .inl ⟨tyFs_agg ha',cs,rfl,h1⟩
    ·cases ha
   ·rename_i q e
    split at ha
    ·rename_i a' ha';cases hb:Nat.beq (tyArr a' q).sz i.size<;>rw[hb] at ha<;>cases ha;obtain⟨cs,rfl, -⟩:=hv;exact .inl ⟨tyArr_agg _ _,cs,rfl,h1⟩
    ·cases ha
   ·cases ha
  ·cases ha
theorem trodAll_rd {m:Nat} {base:Nat}:∀{ts:List TypeId} {vs:List Value} {ds:List (DataW H)} {ps:List MemPlace} {as:List Ty},DataW.TrodAll enc P w 0 (fun _=>true) held ts vs ds ps→tyXL T m ts=some as→
  (∀(j:Nat) t v,ts[j]?=some t→vs[j]?=some v→Value.okWide P w .any base t v)→(∀z,z∈DataW.weightsEach P ts ds→z≤reachBytes)→∃x:DenL as,RdAll (fzW w) as x vs∧BdL as x
 |[],[],[],ps,as,_,ha,_,_=>by
  simp only[tyXL,Option.some.injEq] at ha;subst ha;exact⟨(),rfl,trivial⟩
 |t::ts,v::vs,d::ds,ps,as,h,ha,hv,hw=>by
  obtain⟨p,q,h1,h2,rfl⟩:=h;simp only[tyXL] at ha
  split at ha
  ·rename_i a as' h3 h4;cases ha;simp only[DataW.weightsEach,List.mem_append] at hw;obtain⟨y,g1,g2⟩:=arg_rd hT h3 (hv 0 t v rfl rfl) h1 fun z hz=>hw z (.inl hz)
   obtain⟨x,g3,g4⟩:=trodAll_rd h2 h4 (fun j t v a b=>hv (j+1) t v (by simpa using a) (by simpa using b)) fun z hz=>hw z (.inr hz)
   exact⟨(y,x),⟨v,vs,rfl,g1,g3⟩,g2,g4⟩
  ·cases ha
 |[],_::_,_,_,_,h,_,_,_=>by cases h
 |[],[],_::_,_,_,h,_,_,_=>by cases h
 |_::_,[],_,_,_,h,_,_,_=>by cases h
 |_::_,_::_,[],_,_,h,_,_,_=>by cases h
omit hT in
theorem trodAll_carry {w':World} (hs:Same w w') (K:Kids P (· <P.types.size)) (hz:∀t e,t<P.types.size→P.underlying t=some (.slice e)→0<P.cellsOf e):∀{ts:List TypeId} {vs:List Value} {ds:List (DataW H)} {ps:List MemPlace},
  (∀t,t∈ts→t<P.types.size)→DataW.TrodAll enc P w 0 (fun _=>true) true ts vs ds ps→(∀p,p∈ps→sp p.block=true)→DataW.TrodAll enc P w' 0 sp true ts vs ds ps:=by
 intro ts vs ds ps ht h hsp;have hlt:=DataW.TrodAll.lt h;have h1:DataW.TrodAll enc P w' 0 (fun _=>true) true ts vs ds ps:=by
  clear hsp ht
  revert ts vs ds ps
  intro ts
  induction ts with
  |nil=>
   intro vs ds ps h _;cases vs<;>cases ds<;>first|exact h|cases h
  |cons t ts ih=>
   intro vs ds ps h hlt;cases vs with
   |nil=>cases ds<;>cases h
   |cons v vs=>
    cases ds with
    |nil=>cases h
    |cons d ds=>
     obtain⟨p,q,⟨n,h1⟩,h2,rfl⟩:=h;refine⟨p,q,⟨n,DataW.trod_carry n _ _ _ h1 fun x hx=> ?_⟩,ih h2 fun x hx=>hlt x (List.mem_append_right _ hx),rfl⟩;have:=hlt x (List.mem_append_left _ hx);cases x with
     |cell b off=>simp only[World.sameAt,World.cell?,hs.2.2.2 b this]
     |map b=>exact hs.2.2.2 b this
 exact DataW.TrodAll.respare K hz ht h1 hsp
omit hT in
theorem law_calls {gl:List (Nat×List Value)} {f:FuncId} {as:List Ty} {pre:DenL as→Bool} {g:DenL as→DenL [.bool]} (hC:PureC P gl f ⟨as,[.bool],pre,g⟩) (hg:∀x,BdL as x→pre x=true∧g x=(true,())) (hgl:GlW gl w)
  {args:Array Value} {x:DenL as} (hx:RdAll (fzW w) as x args.toList) (hb:BdL as x):Calls P f args w fun e w'=>e=.returned (.bool true)∧Same w w':=by
 obtain⟨h1,h2⟩:=hg x hb;refine(hC (fzW w) w args x (fzW_ok w) hgl hx h1).mono ?_;rintro e w' ⟨vs,fz',rfl, -, -, -,h3,h4⟩;refine⟨?_,h4⟩;have h3:RdAll fz' [.bool] (g x) vs:=h3;rw[h2] at h3;obtain⟨v,r,rfl,h5,rfl⟩:=h3;rcases h5 with⟨hag, -⟩|⟨-,h5⟩
 ·cases hag
 ·simp only[RdC,List.cons.injEq,and_true] at h5;subst h5;rfl
omit hT in
theorem pure_true {gl:List (Nat×List Value)} {f:FuncId} (h:∀w,GlW gl w→Calls P f #[] w fun e w'=>e=.returned (.bool true)∧Same w w'):PureC P gl f ⟨[],[.bool],fun _=>true,fun _=>(true,())⟩:=by
 intro fz w args x hz hgl hrd _;have hrd:args.toList=[]:=hrd;obtain rfl:args=#[]:=by cases args;simp_all
 refine(h w hgl).mono ?_;rintro e w' ⟨rfl,hs⟩;refine⟨[.bool true],fz,rfl,fun _ _ h=>h,fun b c hb=> ?_,fun _ _ h=>.inl h,⟨_,_,rfl,.inr ⟨rfl,rfl⟩,rfl⟩,hs⟩;obtain⟨e,fr,hh⟩:=hz b c hb;exact⟨e,fr,by rw[hs.2.2.2 b (heap_lt hh)];exact hh⟩
end
end Go.Eng
end
end
end
section
noncomputable section
noncomputable section
namespace Go.Eng
open Go
def dfltO:(rs:List OT)→DenO rs
 |[]=>()
 |r::rs=>(r.dflt,dfltO rs)
def ofOO (S:OSpec) (g:S.root.Den→DenO S.ts→Option (S.root.Den×DenO S.rs)):OSpec:=⟨S.rb,S.ri,S.root,S.re,S.ts,S.rs,fun x y=>(g x y).isSome,fun x y=>(g x y).getD (S.root.dflt,dfltO S.rs)⟩
def niceO (S:OSpec) (pre:S.root.Den→DenO S.ts→Bool) (g:S.root.Den→DenO S.ts→S.root.Den×DenO S.rs):OSpec:=⟨S.rb,S.ri,S.root,S.re,S.ts,S.rs,pre,g⟩
section
variable {P:Program}
theorem LR.mono {D D':Nat→Prop} {ι ι':Nat→Reg} (hD:∀i,D i→D' i) (hi:∀i,D i→ι' i=ι i):∀{vs us:List Value},LR D ι vs us→LR D' ι' vs us
 |_,_,.nil=>.nil
 |_,_,.cons h t=>.cons (h.mono hD hi) (LR.mono hD hi t)
variable {E:Env} (hE:E.OK P)
include hE
omit hE in
theorem MatP.hall {w:World} {fz:Nat→Option (Array Value)} {own:List Nat} {D:Nat→Prop} {ι ι':Nat→Reg} {σ σ':St} (m:MatP P w fz own D ι σ σ' ι') (h:HAll P D ι σ.H w) (hD:∀id,D id→id<σ.next) (hro:∀id,¬Wr σ.H id)
  (hfar:∀id,Lv σ.H id→∀b,b∈own→¬(ι id).Own b∧¬(ι id).Fz b) (hno:∀b,b∈own→fz b=none):HAll P (fun i=>D i∨σ.rng σ' i) ι' σ'.H w:=by
 have hold:∀id,¬σ.rng σ' id→σ'.H.hdr id=σ.H.hdr id:=fun id hr=>by simp only[St.H,m.a.old id hr]
 refine⟨fun id x hx=> ?_,fun id k v hl hx=> ?_,fun i j li lj hij b hb=> ?_⟩
 ·by_cases hr:σ.rng σ' id
  ·obtain⟨o,g1,g2,g3⟩:=m.new id hr;rw[St.hdr_of g1] at hx;cases hx;exact g2
  ·rw[hold id hr] at hx;exact(h.hd id x hx).as (m.io id hr)
 ·by_cases hr:σ.rng σ' id
  ·obtain⟨o,g1,g2,g3⟩:=m.new id hr;simp only[St.H,g1] at hx;exact g3 k v hx
  ·have e2:σ'.H.cell id k=σ.H.cell id k:=by simp only[St.H,m.a.old id hr]
   rw[e2] at hx;exact(h.ce id k v (hl.of_hdr (hold id hr)) hx).into (m.io id hr) (fun _=>.inl) fun i hi=>m.io i fun hr=>by have:=hD i hi;have:=hr.1;omega
 ·by_cases hi:σ.rng σ' i
  ·have hbo:=m.own i hi b hb;by_cases hj:σ.rng σ' j
   ·refine⟨m.dist i j hi hj hij b hb,fun⟨c,hz⟩=> ?_⟩;have h1:=m.fz j hj b c hz;rw[hno b hbo] at h1;cases h1
   ·rw[m.io j hj];exact hfar j (lj.of_hdr (hold j hj)) b hbo
  ·exact absurd (li.of_hdr (hold i hi)) (hro i)
omit hE in
theorem ObjC.nice {gl:List (Nat×List Value)} {f:FuncId} {S:OSpec} {g:S.root.Den→DenO S.ts→Option (S.root.Den×DenO S.rs)} (h:ObjC P gl f (ofOO S g)) {pre:S.root.Den→DenO S.ts→Bool} {n:S.root.Den→DenO S.ts→S.root.Den×DenO S.rs}
  (hn:∀x y,pre x y=true→g x y=some (n x y)):ObjC P gl f (niceO S pre n):=by
 intro fz w r own1 own2 args x y hz hgl hN hF0 hGo hRt hRn hRA hpre;have e:=hn x y hpre;have:=h fz w r own1 own2 args x y hz hgl hN hF0 hGo hRt hRn hRA (by show(g x y).isSome=true;rw[e];rfl);have e2:(ofOO S g).g x y=n x y:=by show(g x y).getD _=n x y;rw[e];rfl
 rw[e2] at this;exact this
def ospL:List (Nat×OSpec)→FuncId→Option OSpec
 |[],_=>none
 |(g,S)::r,f=>bif Nat.beq g f then some S else ospL r f
def ObjAll (P:Program) (gl:List (Nat×List Value)):List (Nat×OSpec)→Prop
 |[]=>True
 |(g,S)::r=>ObjC P gl g S∧ObjAll P gl r
omit hE in
theorem ospL_ok {gl:List (Nat×List Value)}:∀{l:List (Nat×OSpec)},ObjAll P gl l→∀f S,ospL l f=some S→ObjC P gl f S
 |[],_,f,S,h=>by cases h
 |(g,T)::r,hp,f,S,h=>by
  simp only[ospL] at h;cases hb:Nat.beq g f
  ·rw[hb] at h;exact ospL_ok hp.2 f S h
  ·rw[hb] at h;have:=Nat.eq_of_beq_eq_true hb;subst this;cases h;exact hp.1
end
end Go.Eng
end
end
end
section
noncomputable section
noncomputable section
namespace Go.Eng
open Go
def ofV (t:Ty) (e:TypeId) (g:List t.Den→Option (List t.Den)):VSpec:=⟨t,e,fun x=>(g x).isSome,fun x=>(g x).getD []⟩
section
variable {P:Program} {E:Env} (hE:E.OK P)
def QV (P:Program) (fn:Func) (t:Ty) (e:TypeId) (r:Reg) (ys:List t.Den) (w0:World):Exit→Act→World→Prop:=
 bodyPost P fn fun ev w'=>ev=.returned (.tuple #[])∧HdrOK P (fun _=>r) 0 w' (.vec t ys e)∧w0.heap.size≤w'.heap.size∧w'.os=w0.os∧w'.output=w0.output∧∀b,b<w0.heap.size→¬r.Own b→w'.heap[b]?=w0.heap[b]?
end
theorem VecC.nice {P:Program} {gl:List (Nat×List Value)} {f:FuncId} {t:Ty} {e:TypeId} {g:List t.Den→Option (List t.Den)} (h:VecC P gl f (ofV t e g)) {pre:List t.Den→Bool} {n:List t.Den→List t.Den} (hn:∀x,pre x=true→g x=some (n x)):VecC P gl f ⟨t,e,pre,n⟩:=by
 intro r w xs hgl hh hno hpre;have e1:=hn xs hpre;have:=h r w xs hgl hh hno (by show(g xs).isSome=true;rw[e1];rfl);have e2:(ofV t e g).g xs=n xs:=by show(g xs).getD []=_;rw[e1];rfl
 rw[e2] at this;exact this
end Go.Eng
end
end
end
