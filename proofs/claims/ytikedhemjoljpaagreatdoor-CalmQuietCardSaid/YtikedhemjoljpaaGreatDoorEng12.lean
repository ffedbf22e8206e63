/-
  The engine, part 12: an abstract evaluator over the model's code, proved sound. No condition.
-/
import Derived.Test.YtikedhemjoljpaaGreatDoorEng11
import Derived.ChangeArms
import Derived.ReadAgain
import Derived.ProofKit
import Derived.WalkKit
import Derived.OpenShut
section
noncomputable section
noncomputable section
namespace Go.Eng
open Go
def heads:Code→List Kt→List Pl
 | .seq a b,ks=>heads a (.seq b::ks)++heads b ks
 | .cond _ a b,ks=>heads a ks++heads b ks
 | .block id b,ks=>heads b (.block id::ks)
 | .loop b,ks=>.head b ks::heads b (.loop b::ks)
 | .scope b,ks=>heads b (.scope b::ks)
 |_,_=>[]
def hdN (fn:Func) (n:Nat):Pl:=(heads (bodyOf fn) []).getD n (.out .normal [])
def Pl.enter:Pl→Pl
 | .head b ks=>.run b (.loop b::ks)
 |p=>p
end Go.Eng
namespace Go.Eng
open Go
def specL:List (Nat×PSpec)→FuncId→Option PSpec
 |[],_=>none
 |(g,S)::r,f=>bif Nat.beq g f then some S else specL r f
def PureAll (P:Program) (gl:List (Nat×List Value)):List (Nat×PSpec)→Prop
 |[]=>True
 |(g,S)::r=>PureC P gl g S∧PureAll P gl r
theorem specL_ok {P:Program} {gl:List (Nat×List Value)}:∀{l:List (Nat×PSpec)},PureAll P gl l→∀f S,specL l f=some S→PureC P gl f S
 |[],_,f,S,h=>by cases h
 |(g,T)::r,hp,f,S,h=>by
  simp only[specL] at h;cases hb:Nat.beq g f
  ·rw[hb] at h;exact specL_ok hp.2 f S h
  ·rw[hb] at h;have:=Nat.eq_of_beq_eq_true hb;subst this;cases h;exact hp.1
end Go.Eng
end
end
end
section
noncomputable section
noncomputable section
namespace Go.Eng
open Go
def gd {α:Type}:List Bool→Option α→Option α
 |[],r=>r
 |b::bs,r=>gd bs (bif b then r else none)
theorem gd_some {α:Type} {y:α}:∀{l:List Bool} {r:Option α},gd l r=some y→AllP l∧r=some y
 |[],_,h=>⟨trivial,h⟩
 |b::bs,r,h=>by
  obtain⟨h1,h2⟩:=gd_some (l:=bs) h;cases b
  ·cases h2
  ·exact⟨⟨rfl,h1⟩,h2⟩
section
variable (P:Program) (E:Env) (call:CallF) (nt:Nat) {α:Type}
def asB:Value→Option Bool
 | .tuple a=>match a.toList with
   |[.chan (some 1),.bool b]=>some b
   |_=>none
 |_=>none
def cPut (o:Oper) (s:Tr Value) (v:Value) (σ:St) (φ:Foot) (k:Tr Value→St→Foot→Option α):Option α:=
 match asB v with
 |some b=>bif b then(match aPut nt s o.dst (.bool true) with
   |some s'=>k s' σ φ
   |none=>none)
  else(match aPut nt s o.dst (.bool false) with
   |some s'=>k s' σ φ
   |none=>none)
 |none=>match aPut nt s o.dst v with
  |some s'=>k s' σ φ
  |none=>none
def cGot (o:Oper) (s:Tr Value) (σ:St) (r:Option OpR) (k:Tr Value→St→Foot→Option α):Option α:=
 match r with
 |some (.val r)=>cPut nt o s r.v r.σ r.φ k
 |some (.enter f args)=>match call f args σ with
  |some (v,σ1,φ)=>cPut nt o s v σ1 φ k
  |none=>none
 |none=>none
def rSplit (s:Tr Value) (t:TypeId) (x i:Operand):Option (IntKind×Int×Nat×Value):=
 match av E.G s x,av E.G s i with
 |some v,some (.tuple a)=>match unsy (.tuple a),E.T.und t,v with
  |some (.int k n),some (.array len _),.pointer (some ⟨_,_,none⟩)=>some (k,n,len,v)
  |some (.int k n),some (.slice _),.slice (some ⟨_,_,none⟩) len _=>some (k,n,len,v)
  |_,_,_=>none
 |_,_=>none
def cSplit (g:Int→Option OpR) (n:Int) (K:Option OpR→Option α):Nat→Nat→Option α
 |0,_=>none
 |m+1,j=>bif n==(Int.ofNat j) then K (g (Int.ofNat j)) else cSplit g n K m (j+1)
def cRun (o:Oper) (s:Tr Value) (σ:St) (k:Tr Value→St→Foot→Option α):Option α:=
 match o.op with
 | .pick c a b=>match av E.G s c with
   |some (.bool t)=>bif t then cGot call nt o s σ (pureV σ (av E.G s a)) k else cGot call nt o s σ (pureV σ (av E.G s b)) k
   |_=>none
 | .indexAddr t x i=>match rSplit E s t x i with
   |some (kd,n,len,v)=>cSplit (fun j=>memV (aIndexAddr E.T σ t v (.int kd j))) n (fun r=>cGot call nt o s σ r k) len 0
   |none=>cGot call nt o s σ (aOpS P E s σ o) k
 |_=>cGot call nt o s σ (aOpS P E s σ o) k
def cWant (ops:List Oper) (s:Tr Value) (o:Oper):Option Bool:=
 match o.guard with
 |none=>some true
 |some (j,want)=>match oget ops j with
  |some g=>match g.dst with
   |some d=>match s.get d with
    |some (.bool b)=>some (bif want then b else !b)
    |some v=>bif notB v then some false else none
    |none=>none
   |none=>some false
  |none=>some false
theorem cWant_eq (ops:List Oper) (s:Tr Value) (o:Oper):cWant ops s o=aWanted ops s o:=by
 unfold cWant aWanted
 split
 ·rename_i h;rw[h]
 ·rename_i j want h;rw[h];simp only
  split
  ·rename_i g hg;rw[hg];simp only
   split
   ·rename_i d hd;rw[hd];simp only
    split
    ·rename_i b hb;rw[hb];cases want<;>cases b<;>rfl
    ·rename_i v hv hb;rw[hb];cases v<;>first|rfl|exact absurd rfl (hv _)
    ·rename_i hb;rw[hb]
   ·rename_i hd;rw[hd]
  ·rename_i hg;rw[hg]
def cStep (all:List Oper) (o:Oper) (s:Tr Value) (σ:St) (k:Tr Value→St→Foot→Option α):Option α:=
 match cWant all s o with
 |some b=>bif b then cRun P E call nt o s σ k else(match aPut nt s o.dst undef with
  |some s'=>k s' σ .nil
  |none=>none)
 |none=>none
def cOps (all:List Oper):List Oper→Tr Value→St→(Tr Value→St→Option α)→Option α
 |[],s,σ,k=>k s σ
 |o::os,s,σ,k=>cStep P E call nt all o s σ fun s1 σ1 _=>cOps all os s1 σ1 k
def cSteps (all:List Oper):List Oper→Tr Value→St→(Tr Value→St→List Rec→Option α)→Option α
 |[],s,σ,k=>k s σ []
 |o::os,s,σ,k=>cStep P E call nt all o s σ fun s1 σ1 φ1=>cSteps all os s1 σ1 fun s2 σ2 rs=>k s2 σ2 (⟨φ1.trim σ.next,σ.next,σ1.next⟩::rs)
end
section
variable {P:Program} {E:Env} {call:CallF} {nt:Nat} {α:Type} {y:α}
theorem asB_spec {v:Value} {b:Bool} (h:asB v=some b):v=sy (.bool b):=by
 unfold asB at h
 split at h
 ·rename_i a
  split at h
  ·rename_i b' hb;cases h;obtain⟨l⟩:=a;simp only at hb;rw[hb]
  ·cases h
 ·cases h
theorem asB_none {v:Value} {σ:St} (h:asB v=none):resolve v σ=some (v,σ):=by
 cases v with
 |tuple a=>
  simp only[asB] at h;simp only[resolve]
  split at h
  ·cases h
  ·rename_i hno
   split
   ·rename_i b hb;exact absurd hb (hno b)
   ·rfl
 |_=>rfl
theorem cPut_path {o:Oper} {s:Tr Value} {v:Value} {σ:St} {φ:Foot} {k:Tr Value→St→Foot→Option α} (h:cPut nt o s v σ φ k=some y):
  ∃u s',resolve v σ=some (u,σ)∧aPut nt s o.dst u=some s'∧k s' σ φ=some y:=by
 unfold cPut at h
 split at h
 ·rename_i b hb;rw[asB_spec hb];cases b
  ·rw[cond_false] at h
   split at h
   ·rename_i s' h2;exact⟨_,s',rfl,h2,h⟩
   ·cases h
  ·rw[cond_true] at h
   split at h
   ·rename_i s' h2;exact⟨_,s',rfl,h2,h⟩
   ·cases h
 ·rename_i hb
  split at h
  ·rename_i s' h2;exact⟨v,s',asB_none hb,h2,h⟩
  ·cases h
theorem cGot_path {o:Oper} {s:Tr Value} {σ:St} {r:Option OpR} {k:Tr Value→St→Foot→Option α} (h:cGot call nt o s σ r k=some y):
  ∃s' σ' φ,k s' σ' φ=some y∧((∃r',r=some (.val r')∧∃v,resolve r'.v r'.σ=some (v,σ')∧aPut nt s o.dst v=some s'∧φ=r'.φ)∨
   ∃f args v0 σ1 v,r=some (.enter f args)∧call f args σ=some (v0,σ1,φ)∧resolve v0 σ1=some (v,σ')∧aPut nt s o.dst v=some s'):=by
 unfold cGot at h
 split at h
 ·rename_i r';obtain⟨u,s',h1,h2,h3⟩:=cPut_path h;exact⟨s',r'.σ,r'.φ,h3,.inl ⟨r',rfl,u,h1,h2,rfl⟩⟩
 ·rename_i f args
  split at h
  ·rename_i v0 σ1 φ h0;obtain⟨u,s',h1,h2,h3⟩:=cPut_path h;exact⟨s',σ1,φ,h3,.inr ⟨f,args,v0,σ1,u,rfl,h0,h1,h2⟩⟩
  ·cases h
 ·cases h
theorem cGot_step {all:List Oper} {o:Oper} {s:Tr Value} {σ:St} {k:Tr Value→St→Foot→Option α} (hw:aWanted all s o=some true) (h:cGot call nt o s σ (aOpS P E s σ o) k=some y):
  ∃s' σ' φ,aStep P E call nt all o s σ=some (s',σ',φ)∧k s' σ' φ=some y:=by
 obtain⟨s',σ',φ,h1,h2⟩:=cGot_path h;refine⟨s',σ',φ,?_,h1⟩;unfold aStep;rw[hw];rcases h2 with⟨r',e1,v,e2,e3,e4⟩|⟨f,args,v0,σ1,v,e1,e2,e3,e4⟩
 ·simp only[e1,e2,e3,e4]
 ·simp only[e1,e2,e3,e4]
theorem aOpS_pick {o:Oper} {s:Tr Value} {σ:St} {c a b:Operand} {t:Bool} (ho:o.op=.pick c a b) (ht:av E.G s c=some (.bool t)) {r:OpR} (h:pureV σ (av E.G s (bif t then a else b))=some r):aOpS P E s σ o=some r:=by
 have e1:vOpC E s σ o=none:=vOpC_none (by unfold vOp;rw[ho]);have e2:aOp P E s σ o=some r:=by
  unfold aOp;rw[ho];simp only[ht];cases t<;>exact h
 unfold aOpS aOpS0;rw[e1,e2]
theorem cGot_pick {all:List Oper} {o:Oper} {s:Tr Value} {σ:St} {c a b:Operand} {t:Bool} {k:Tr Value→St→Foot→Option α} (ho:o.op=.pick c a b) (ht:av E.G s c=some (.bool t)) (hw:aWanted all s o=some true)
  (h:cGot call nt o s σ (pureV σ (av E.G s (bif t then a else b))) k=some y):∃s' σ' φ,aStep P E call nt all o s σ=some (s',σ',φ)∧k s' σ' φ=some y:=by
 cases hx:pureV σ (av E.G s (bif t then a else b)) with
 |none=>rw[hx] at h;simp[cGot] at h
 |some r=>
  rw[hx] at h;exact cGot_step hw (by rw[aOpS_pick ho ht hx];exact h)
theorem cSplit_path {g:Int→Option OpR} {n:Int} {K:Option OpR→Option α}:∀{m j:Nat},cSplit g n K m j=some y→K (g n)=some y
 |0,_,h=>by cases h
 |m+1,j,h=>by
  unfold cSplit at h;cases hb:n==(Int.ofNat j)
  ·rw[hb,cond_false] at h;exact cSplit_path h
  ·rw[hb,cond_true] at h;have:n=Int.ofNat j:=by simpa using hb
   rw[this];exact h
theorem rSplit_op {o:Oper} {s:Tr Value} {σ:St} {t:TypeId} {x i:Operand} {kd:IntKind} {n:Int} {len:Nat} {v:Value} (ho:o.op=.indexAddr t x i) (h:rSplit E s t x i=some (kd,n,len,v)):
  aOpS P E s σ o=memV (aIndexAddr E.T σ t v (.int kd n)):=by
 unfold rSplit at h
 split at h
 ·rename_i v' a hv ha;have e1:vOpC E s σ o=none:=vOpC_none (by unfold vOp;rw[ho]);have key:∀(hd:∀b,v'≠ .tuple b),unsy (.tuple a)=some (.int kd n)→v'=v→aOpS P E s σ o=memV (aIndexAddr E.T σ t v (.int kd n)):=by
   rintro hd hu rfl;have e2:aOp P E s σ o=none:=by unfold aOp;rw[ho];simp only[hv,ha];rfl
   have e3:sIndexAddr E.T σ t v' (.tuple a)=none:=by
    unfold sIndexAddr
    split
    ·exact absurd rfl (hd _)
    ·rfl
   have e4:mOp E s σ o=none:=by unfold mOp;rw[ho]
   have e5:symOp E s σ o=memV (aIndexAddr E.T σ t v' (.int kd n)):=by
    unfold symOp;rw[ho];simp only[hv,ha,rIndexAddr,e3,hu]
   unfold aOpS aOpS0;rw[e1,e2,e4,e5];cases aIndexAddr E.T σ t v' (.int kd n)<;>rfl
  split at h
  all_goals first
   |(cases h;done)
   |(rename_i hu _
     simp only[Option.some.injEq,Prod.mk.injEq] at h;obtain⟨rfl,rfl,rfl,rfl⟩:=h;exact key (fun b hb=>by cases hb) (by assumption) rfl)
 ·cases h
theorem cStep_path {all:List Oper} {o:Oper} {s:Tr Value} {σ:St} {k:Tr Value→St→Foot→Option α} (h:cStep P E call nt all o s σ k=some y):
  ∃s' σ' φ,aStep P E call nt all o s σ=some (s',σ',φ)∧k s' σ' φ=some y:=by
 unfold cStep at h
 split at h
 ·rename_i b hb;rw[cWant_eq] at hb;cases b
  ·rw[cond_false] at h
   split at h
   ·rename_i s' h1;refine⟨s',σ,.nil,?_,h⟩;unfold aStep;simp only[hb,h1]
   ·cases h
  ·rw[cond_true] at h;unfold cRun at h
   split at h
   ·rename_i c a b ho
    split at h
    ·rename_i t ht;cases t
     ·exact cGot_pick ho ht hb h
     ·exact cGot_pick ho ht hb h
    ·cases h
   ·rename_i t x i ho
    split at h
    ·rename_i kd n len v hr;exact cGot_step hb (by rw[rSplit_op ho hr];exact cSplit_path (K:=fun r=>cGot call nt o s σ r k) h)
    ·exact cGot_step hb h
   ·exact cGot_step hb h
 ·cases h
theorem cOps_path {all:List Oper}:∀{os:List Oper} {s:Tr Value} {σ:St} {k:Tr Value→St→Option α},cOps P E call nt all os s σ k=some y→
  ∃s' σ' φ,evOps P E call nt all os s σ=some (s',σ',φ)∧k s' σ'=some y
 |[],s,σ,k,h=>⟨s,σ,.nil,rfl,h⟩
 |o::os,s,σ,k,h=>by
  obtain⟨s1,σ1,φ1,h1,h2⟩:=cStep_path h;obtain⟨s2,σ2,φ2,h3,h4⟩:=cOps_path h2;exact⟨s2,σ2,φ1.add φ2,by simp only[evOps,h1,h3],h4⟩
theorem cSteps_path {all:List Oper}:∀{os:List Oper} {s:Tr Value} {σ:St} {k:Tr Value→St→List Rec→Option α},cSteps P E call nt all os s σ k=some y→
  ∃s' σ' rs,evSteps P E call nt all os s σ=some (s',σ',rs)∧k s' σ' rs=some y
 |[],s,σ,k,h=>⟨s,σ,[],rfl,h⟩
 |o::os,s,σ,k,h=>by
  obtain⟨s1,σ1,φ1,h1,h2⟩:=cStep_path h;obtain⟨s2,σ2,rs,h3,h4⟩:=cSteps_path h2;exact⟨s2,σ2,_,by simp only[evSteps,h1,h3],h4⟩
end
def St.clean (σ:St):St:=⟨σ.heap,σ.next,[],[]⟩
abbrev Shapes:Type:=Code→Option (List (Nat×Sh))
abbrev Rest (α:Type):Type:=Code→List Kt→List (Nat×Value)→List AO→Option α
section
variable (P:Program) (E:Env) (pins:List Nat) (sh:Shapes) {α:Type} (rec:Rest α) (fin:Exit→Tr Value→St→Option α) (m nt:Nat)
def zc:Nat→Pl→Tr Value→St→Option α
 |0,_,_,_=>none
 |n+1,.run c ks,s,σ=>match c with
  | .skip=>zc n (.out .normal ks) s σ
  | .label _=>zc n (.out .normal ks) s σ
  | .ret=>zc n (.out .ret ks) s σ
  | .exit id=>zc n (.out (.exit id) ks) s σ
  | .goto l=>zc n (.out (.goto l) ks) s σ
  | .region _ ops false=>cOps P E (evCall P E m) nt ops.toList ops.toList s σ.clean fun s' σ'=>gd σ'.pc (zc n (.out .normal ks) s' σ'.clean)
  | .region _ ops true=>cSteps P E (evCall P E m) nt ops.toList ops.toList s σ.clean fun s' σ' recs=>bif okAll ops ops.toList recs [] ops.toList recs then gd σ'.pc (zc n (.out .normal ks) s' σ'.clean) else none
  | .seq u v=>zc n (.run u (.seq v::ks)) s σ
  | .cond c u v=>match av E.G s c with
    |some (.bool b)=>bif b then zc n (.run u ks) s σ else zc n (.run v ks) s σ
    |_=>none
  | .block id b=>zc n (.run b (.block id::ks)) s σ
  | .loop b=>zc n (.head b ks) s σ
  | .scope b=>zc n (.run b (.scope b::ks)) s σ
  |_=>none
 |n+1,.head b ks,s,σ=>match sh b with
  |some shs=>match canon E pins shs s σ with
   |some (l,objs)=>rec b ks l objs
   |none=>none
  |none=>zc n (.run b (.loop b::ks)) s σ
 |_+1,.out e [],s,σ=>fin e s σ
 |n+1,.out e (k::ks),s,σ=>match k with
  | .seq d=>match e with
    | .normal=>zc n (.run d ks) s σ
    |e=>zc n (.out e ks) s σ
  | .block id=>match e with
    | .exit id'=>bif Nat.beq id' id then zc n (.out .normal ks) s σ else zc n (.out (.exit id') ks) s σ
    |e=>zc n (.out e ks) s σ
  | .loop b=>match e with
    | .normal=>zc n (.head b ks) s σ
    |e=>zc n (.out e ks) s σ
  | .scope b=>match e with
    | .goto l=>match findLabel b l with
      |some rest=>zc n (.run rest (.scope b::ks)) s σ
      |none=>zc n (.out (.goto l) ks) s σ
    |e=>zc n (.out e ks) s σ
def zG (N:Nat) (n:Nat):Rest α:=
 Nat.rec (fun _ _ _ _=>none) (fun _ ih b ks l objs=>zc P E pins sh ih fin m nt N (.run b (.loop b::ks)) (mkS l) (mkSt E objs [])) n
end
section
variable {P:Program} {E:Env} (hE:E.OK P) {pin:List (Nat×Reg)} {sh:Shapes} {α:Type} {rec:Rest α} {fin:Exit→Tr Value→St→Option α} {m nt:Nat} {y:α} {Q:World→Exit→Act→World→Prop} {own0 z0:World→Nat→Prop}
 (hfin:∀e s σ,fin e s σ=some y→At P E nt pin Q own0 z0 (.out e []) s σ)
theorem at_clean {p:Pl} {s:Tr Value} {σ:St} (h:At P E nt pin Q own0 z0 p s σ.clean):At P E nt pin Q own0 z0 p s σ:=h
theorem at_unclean {p:Pl} {s:Tr Value} {σ:St} (h:At P E nt pin Q own0 z0 p s σ):At P E nt pin Q own0 z0 p s σ.clean:=h
include hE hfin
theorem zc_sound (hrec:∀b ks l objs,rec b ks l objs=some y→At P E nt pin Q own0 z0 (.head b ks) (mkS l) (mkSt E objs [])):
  ∀(n:Nat) (p:Pl) (s:Tr Value) (σ:St),zc P E (pin.map (·.1)) sh rec fin m nt n p s σ=some y→At P E nt pin Q own0 z0 p s σ
 |0,p,s,σ,h=>by simp[zc] at h
 |n+1,.run c ks,s,σ,h=>by
  have ih:=zc_sound hrec n;have hC:CallSound P E (evCall P E m):=evCall_sound hE m;cases c with
  |skip=>exact fun w0 a w hs=>wp_skip (ih _ _ _ h w0 a w hs)
  |label l=>exact fun w0 a w hs=>wp_label (ih _ _ _ h w0 a w hs)
  |ret=>exact fun w0 a w hs=>wp_ret (ih _ _ _ h w0 a w hs)
  |exit id=>exact fun w0 a w hs=>wp_exit (ih _ _ _ h w0 a w hs)
  |goto l=>exact fun w0 a w hs=>wp_goto (ih _ _ _ h w0 a w hs)
  |region id ops draw=>
   refine at_clean ?_;cases draw with
   |false=>
    simp only[zc] at h;obtain⟨s1,σ1,φ1,h1,h2⟩:=cOps_path h;obtain⟨hok1,h2⟩:=gd_some h2;obtain⟨a1,a2,a3⟩:=evOps_sound hE hC ops.toList 0 _ _ _ _ _ h1 fun j _=>by simp
    refine fun w0 a w hs=>wp_region ?_
    obtain⟨D,ι,hwf,hG,hD,hsr,hall,hdf,q1,q2,q3,q4,q5,q6,q7⟩:=hs;have:=a3 hwf hok1 D ι w a (aft P ks (Q w0)) hwf hG (fun id hr hx=>by have:=hD id hx;simp only[St.rng] at hr;omega) hsr (hall.on _) fun ι' w' a' g1 g2 g3=>
     ih _ _ _ h2 w0 a' w' (Asrt.step hwf hG hD hall hdf q1 q2 q3 q4 q5 q6 q7 a1 (a2 hwf).1 g1 g2 g3)
    rw[List.range_eq_range'];simpa using this
   |true=>
    simp only[zc] at h;obtain⟨s1,σ1,recs,h1,h2⟩:=cSteps_path h;cases hb:okAll ops ops.toList recs [] ops.toList recs
    ·rw[hb] at h2;cases h2
    rw[hb,cond_true] at h2;obtain⟨hok1,h2⟩:=gd_some h2;obtain⟨a1,a2,a3⟩:=evDraw_core hE hC (DrawOK.of h1 hb);refine fun w0 a w hs=>wp_region_any hE.mixed ?_
    obtain⟨D,ι,hwf,hG,hD,hsr,hall,hdf,q1,q2,q3,q4,q5,q6,q7⟩:=hs;have hall2:HAll P D ι σ.clean.H { w with drawn:=w.drawn+1}:=⟨hall.hd,hall.ce,hall.inj⟩
    exact a3 hok1 D ι _ a (aft P ks (Q w0)) hwf hG (fun id hr hx=>by have:=hD id hx;simp only[St.rng] at hr;omega) hsr (hall2.on _) fun ι' w' a' g1 g2 g3=>
     ih _ _ _ h2 w0 a' w' (Asrt.step (w:={ w with drawn:=w.drawn+1}) hwf hG hD hall2 hdf q1 q2 q3 q4 q5 q6 q7 a1 (a2 hwf).1 g1 g2 g3)
  |seq u v=>exact fun w0 a w hs=>wp_seq (ih _ _ _ h w0 a w hs)
  |cond cnd u v=>
   simp only[zc] at h;have hc:∀b,av E.G s cnd=some (.bool b)→∀w0 a w,Asrt P E nt pin w0 (own0 w0) (z0 w0) s σ a w→a.eval cnd=.bool b:=by
    rintro b hb w0 a w ⟨D,ι,_,hG,_,hs,_⟩;have hr:Rel E.G D ι s a.eval cnd:=rel_of hG.b fun t _ v hv=>(hs.2 t v hv).2
    have:=hr _ hb;generalize a.eval cnd=z at this;cases this;rfl
   split at h
   ·rename_i b hb;cases b
    ·exact fun w0 a w hs=>wp_cond_false (hc _ hb w0 a w hs) (ih _ _ _ h w0 a w hs)
    ·exact fun w0 a w hs=>wp_cond_true (hc _ hb w0 a w hs) (ih _ _ _ h w0 a w hs)
   ·cases h
  |block id b=>exact fun w0 a w hs=>wp_block (ih _ _ _ h w0 a w hs)
  |loop b=>exact fun w0 a w hs=>wp_loop_of (ih _ _ _ h w0 a w hs)
  |scope b=>exact fun w0 a w hs=>wp_scope_of (wpS_of (ih _ _ _ h w0 a w hs))
  |rangeFunc f ps as b=>simp[zc] at h
  |refuse why=>simp[zc] at h
 |n+1,.head b ks,s,σ,h=>by
  have ih:=zc_sound hrec n;simp only[zc] at h
  split at h
  ·split at h
   ·rename_i l objs hc;exact fun w0 a w hs=>hrec _ _ _ _ h w0 a w (canon_sound hE hc hs)
   ·cases h
  ·exact fun w0 a w hs=>wpL_of (ih _ _ _ h w0 a w hs)
 |n+1,.out e [],s,σ,h=>hfin e s σ h
 |n+1,.out e (k::ks),s,σ,h=>by
  have ih:=zc_sound hrec n;simp only[zc] at h
  split at h
  ·split at h
   ·exact fun w0 a w hs=>ih _ _ _ h w0 a w hs
   ·rename_i hno;intro w0 a w hs;have:=ih _ _ _ h w0 a w hs;cases e<;>first|exact this|exact absurd rfl hno
  ·split at h
   ·rename_i id _ id';cases hb:Nat.beq id' id
    ·rw[hb,cond_false] at h;have hne:id'≠id:=fun e=>by rw[beq_t e] at hb;cases hb
     intro w0 a w hs;show Exit.inBlock id _ (.exit id') a w;simp only[Exit.inBlock,hne,if_false];exact ih _ _ _ h w0 a w hs
    ·rw[hb,cond_true] at h;have he:=Nat.eq_of_beq_eq_true hb;subst he;intro w0 a w hs;show Exit.inBlock _ _ (.exit _) a w;simp only[Exit.inBlock,if_true];exact ih _ _ _ h w0 a w hs
   ·rename_i hno;intro w0 a w hs;have:=ih _ _ _ h w0 a w hs;cases e<;>first|exact this|exact absurd rfl (hno _)
  ·split at h
   ·exact fun w0 a w hs=>ih _ _ _ h w0 a w hs
   ·rename_i hno;intro w0 a w hs;have:=ih _ _ _ h w0 a w hs;cases e<;>first|exact this|exact absurd rfl hno
  ·split at h
   ·rename_i b _ l
    split at h
    ·rename_i rest hf;intro w0 a w hs;show Exit.inScope P _ _ (.goto l) a w;simp only[Exit.inScope,hf];exact wpS_of (ih _ _ _ h w0 a w hs)
    ·rename_i hf;intro w0 a w hs;show Exit.inScope P _ _ (.goto l) a w;simp only[Exit.inScope,hf];exact ih _ _ _ h w0 a w hs
   ·rename_i hno;intro w0 a w hs;have:=ih _ _ _ h w0 a w hs;cases e<;>first|exact this|exact absurd rfl (hno _)
theorem zG_sound {N:Nat}:∀(n:Nat) (b:Code) (ks:List Kt) (l:List (Nat×Value)) (objs:List AO),zG P E (pin.map (·.1)) sh fin m nt N n b ks l objs=some y→At P E nt pin Q own0 z0 (.head b ks) (mkS l) (mkSt E objs [])
 |0,_,_,_,_,h=>by cases h
 |n+1,b,ks,l,objs,h=>fun w0 a w hs=>wpL_of (zc_sound hE hfin (zG_sound n) N (.run b (.loop b::ks)) (mkS l) (mkSt E objs []) h w0 a w hs)
end
def dfltL:(ts:List Ty)→DenL ts
 |[]=>()
 |t::ts=>(t.dflt,dfltL ts)
def ofO (ts rs:List Ty) (g:DenL ts→Option (DenL rs)):PSpec:=⟨ts,rs,fun x=>(g x).isSome,fun x=>(g x).getD (dfltL rs)⟩
def finO (E:Env) (fn:Func) (rs:List Ty) (e:Exit) (s:Tr Value) (σ:St):Option (DenL rs):=
 match zfin E fn rs (.out e [],s,σ) with
 |some (y,ps)=>gd ps (some y)
 |none=>none
def heads0:Nat:=1606938044258990275541962092341162602522202993782792835301376
def fON (P:Program) (E:Env) (sh:Shapes) (fn:Func) (ts rs:List Ty) (N:Nat) (x:DenL ts):Option (DenL rs):=
 match mat (dcsL ts x) (glSt E) with
 |(vs,σ)=>zc P E [] sh (zG P E [] sh (finO E fn rs) 1000 fn.ntmps 1000 N) (finO E fn rs) 1000 fn.ntmps 1000 (.run (bodyOf fn) []) (initS 0 (grp ts vs) .lf) σ
def fO (P:Program) (E:Env) (sh:Shapes) (fn:Func) (ts rs:List Ty) (x:DenL ts):Option (DenL rs):=fON P E sh fn ts rs heads0 x
def rO (P:Program) (E:Env) (sh:Shapes) (fn:Func) (rs:List Ty) (n:Nat):Rest (DenL rs):=zG P E [] sh (finO E fn rs) 1000 fn.ntmps 1000 n
section
variable {P:Program} {E:Env} (hE:E.OK P)
include hE
theorem finO_at {nt:Nat} {fz0:Nat→Option (Array Value)} {fn:Func} {rs:List Ty} {y:DenL rs} (e:Exit) (s:Tr Value) (σ:St) (h:finO E fn rs e s σ=some y):
  At P E nt [] (QP P fn rs y fz0) (fun _ _=>False) (fun _ b=>∃c,fz0 b=some c) (.out e []) s σ:=by
 unfold finO at h
 split at h
 ·rename_i y' ps hz;obtain⟨h1,h2⟩:=gd_some h;cases h2;exact zfin_at hE hz h1
 ·cases h
theorem pureO (hne:∀p,p∈E.gl→p.2≠[]) {sh:Shapes} {ts rs:List Ty} {f:FuncId} {fn:Func} (hfn:P.funcs[f]?=some fn) (hb:fn.body.isSome=true) (hnt:ts.length≤fn.ntmps):PureC P E.gl f (ofO ts rs (fO P E sh fn ts rs)):=by
 obtain⟨body,hb⟩:=Option.isSome_iff_exists.1 hb;refine pure_of hE hne hfn hb hnt fun x hx fz0=>⟨[],?_⟩
 have hx:(fO P E sh fn ts rs x).isSome=true:=hx;obtain⟨y,hy⟩:=Option.isSome_iff_exists.1 hx;have hg:(ofO ts rs (fO P E sh fn ts rs)).g x=y:=by show(fO P E sh fn ts rs x).getD _=y;rw[hy];rfl
 rw[hg];rw[show body=bodyOf fn by simp only[bodyOf,hb]];exact zc_sound hE (pin:=[]) (finO_at hE) (zG_sound hE (pin:=[]) (finO_at hE) heads0) 1000 _ _ _ hy
end
theorem PureC.nice {P:Program} {gl:List (Nat×List Value)} {f:FuncId} {ts rs:List Ty} {g:DenL ts→Option (DenL rs)} (h:PureC P gl f (ofO ts rs g)) {pre:DenL ts→Bool} {n:DenL ts→DenL rs} (hn:∀x,pre x=true→g x=some (n x)):PureC P gl f ⟨ts,rs,pre,n⟩:=by
 intro fz w args x hz hgl hrd hpre;have hpre:pre x=true:=hpre;have e:=hn x hpre;have:=h fz w args x hz hgl hrd (by show(g x).isSome=true;rw[e];rfl);have e2:(ofO ts rs g).g x=n x:=by show(g x).getD _=n x;rw[e];rfl
 rw[e2] at this;exact this
end Go.Eng
namespace Go.Eng
open Go
def tyE (T:TE):Nat→TypeId→Option Ty
 |0,_=>none
 |n+1,t=>match T.und t with
  |some (.int .u8)=>some .byte
  |some (.int k)=>some (.int k)
  |some .bool=>some .bool
  |some .string=>some .str
  |some (.slice e)=>match tyE T n e with
   |some a=>some (.slice a)
   |none=>none
  |some (.struct fs)=>fs.toList.foldr (fun f r=>match tyE T n f.type,r with
   |some a,some b=>some (.pair a b)
   |_,_=>none) (some .unit)
  |_=>none
def fstReg:Code→Option Nat
 | .region id _ _=>some id
 | .seq a b=>match fstReg a with
   |some i=>some i
   |none=>fstReg b
 | .cond _ a b=>match fstReg a with
   |some i=>some i
   |none=>fstReg b
 | .block _ b=>fstReg b
 | .loop b=>fstReg b
 | .scope b=>fstReg b
 |_=>none
def lookN {α:Type}:List (Nat×α)→Nat→Option α
 |[],_=>none
 |(j,x)::r,i=>bif Nat.beq i j then some x else lookN r i
def shOf (l:List (Nat×List (Nat×Sh))):Shapes:=fun b=>match fstReg b with
 |some i=>lookN l i
 |none=>none
def atHead {α:Type} (r:Rest α):Pl→List (Nat×Value)→List AO→Option α
 | .head b ks,l,o=>r b ks l o
 |_,_,_=>none
def rH (P:Program) (E:Env) (sh:Shapes) (fn:Func) (rs:List Ty) (n k:Nat) (l:List (Nat×Value)) (objs:List AO):Option (DenL rs):=atHead (rO P E sh fn rs n) (hdN fn k) l objs
end Go.Eng
end
end
end
section
noncomputable section
noncomputable section
namespace Go.Eng
open Go
def reach:Nat:=140737488355328
def Bd:(t:Ty)→t.Den→Prop
 | .int k,n=>inK k n
 | .str,s=>s.length≤reach
 | .pair a b,x=>Bd a x.1∧Bd b x.2
 | .slice a,xs=>xs.length≤reach∧∀x,x∈xs→Bd a x
 |_,_=>True
def BdL:(ts:List Ty)→DenL ts→Prop
 |[],_=>True
 |t::ts,x=>Bd t x.1∧BdL ts x.2
def tyFs (g:TypeId→Option Ty):List Field→Nat→Option Ty
 |[],_=>some .unit
 |f::r,o=>match g f.type with
  |some a=>bif Nat.beq f.offset o then(match tyFs g r (o+a.sz) with
   |some b=>some (.pair a b)
   |none=>none) else none
  |none=>none
def tyArr (a:Ty):Nat→Ty
 |0=>.unit
 |n+1=>.pair a (tyArr a n)
def tyX (T:TE):Nat→TypeId→Option Ty
 |0,_=>none
 |n+1,t=>match T.und t,T.inf t with
  |some d,some i=>match d with
   | .bool=>bif Nat.beq i.size 1 then some .bool else none
   | .int .u8=>bif Nat.beq i.size 1 then some .byte else none
   | .int k=>bif Nat.beq i.size 1 then some (.int k) else none
   | .string=>bif Nat.beq i.size 1 then some .str else none
   | .slice e=>match tyX T n e,T.inf e with
     |some a,some j=>bif Nat.beq i.size 1&&(!Nat.beq j.bytes 0&& !Nat.beq a.sz 0) then some (.slice a) else none
     |_,_=>none
   | .struct fs=>match tyFs (tyX T n) fs.toList 0 with
     |some a=>bif Nat.beq a.sz i.size then some a else none
     |none=>none
   | .array q e=>match tyX T n e with
     |some a=>bif Nat.beq (tyArr a q).sz i.size then some (tyArr a q) else none
     |none=>none
   |_=>none
  |_,_=>none
theorem tyArr_agg (a:Ty) (n:Nat):(tyArr a n).agg=true:=by cases n<;>rfl
theorem tyArr_sz (a:Ty):∀n,(tyArr a n).sz=n*a.sz
 |0=>by simp[tyArr,Ty.sz]
 |n+1=>by simp only[tyArr,Ty.sz,tyArr_sz a n,Nat.succ_mul];omega
def fzW (w:World) (b:Nat):Option (Array Value):=match w.heap[b]? with
 |some (.cells c _ _)=>some c
 |_=>none
theorem fzW_ok (w:World):FzOK (fzW w) w:=by
 intro b c h;unfold fzW at h
 split at h
 ·rename_i c' e fr hh;cases h;exact⟨e,fr,hh⟩
 ·cases h
section
variable {P:Program} {T:TE} (hT:T.OK P) {w:World} {sp:Nat→Bool} {held:Bool} {H:Type} {enc:TypeId×Value→H}
include hT
theorem cellsOf_inf {t:TypeId} {i:TypeInfo} (h:T.inf t=some i):P.cellsOf t=i.size:=by
 unfold Program.cellsOf;rw[hT.inf t i h];rfl
theorem bytesOf_inf {t:TypeId} {i:TypeInfo} (h:T.inf t=some i):P.bytesOf t=i.bytes:=by
 unfold Program.bytesOf;rw[hT.inf t i h];rfl
theorem tyX_sz:∀{n:Nat} {t:TypeId} {a:Ty},tyX T n t=some a→P.cellsOf t=a.sz
 |0,_,_,h=>by cases h
 |n+1,t,a,h=>by
  simp only[tyX] at h
  split at h
  ·rename_i d i hd hi;rw[cellsOf_inf hT hi];simp only[Bool.cond_eq_ite] at h
   split at h
   all_goals try (split at h<;>first|(rename_i hb;cases h;exact Nat.eq_of_beq_eq_true hb)|cases h)
   ·split at h
    ·split at h
     ·rename_i hb;cases h;rw[Bool.and_eq_true] at hb;exact Nat.eq_of_beq_eq_true hb.1
     ·cases h
    ·cases h
   ·split at h
    ·split at h
     ·rename_i hb;cases h;exact(Nat.eq_of_beq_eq_true hb).symm
     ·cases h
    ·cases h
   ·split at h
    ·split at h
     ·rename_i hb;cases h;exact(Nat.eq_of_beq_eq_true hb).symm
     ·cases h
    ·cases h
   ·cases h
  ·cases h
omit hT in
theorem cells_of {b n:Nat} {a:Addr} {cs:List Value} (h:w.cells? b a n=some cs) (hn:0<n):∃arr,fzW w a.block=some arr∧a.spot=none∧a.off+n≤arr.size∧cs=(arr.toList.drop a.off).take n:=by
 unfold World.cells? at h
 split at h
 ·have hl:=mapM_some_length h;simp only[List.length_range] at hl;obtain⟨blk,off,spot⟩:=a;have hc:∀i,i<n→w.cell? (Addr.add ⟨blk,off,spot⟩ i)=cs[i]?:=fun i hi=>mapM_some_get h i i (by simp[hi])
  have h0:w.cell? ⟨blk,off,spot⟩=cs[0]?:=by
   have:=hc 0 hn;simpa[Addr.add] using this
  have hs:spot=none:=by
   rw[List.getElem?_eq_getElem (show 0<cs.length by omega)] at h0;simp only[World.cell?] at h0
   split at h0
   ·cases spot with
    |none=>rfl
    |some q=>simp at h0
   ·cases h0
  subst hs;have hc:∀i,i<n→w.cell? ⟨blk,off+i,none⟩=cs[i]?:=fun i hi=>by have:=hc i hi;rwa[add_none] at this
  cases hh:w.heap[blk]? with
  |none=>
   have:=hc 0 hn;simp only[World.cell?,hh] at this;rw[List.getElem?_eq_getElem (by omega)] at this;simp at this
  |some o=>
   cases o with
   |cells arr e fr=>
    have key:∀i,i<n→arr[off+i]?=cs[i]?:=fun i hi=>by
     have:=hc i hi;simpa[World.cell?,hh] using this
    have hlast:off+n≤arr.size:=by
     have:=key (n-1) (by omega);rw[List.getElem?_eq_getElem (by omega)] at this;rcases Nat.lt_or_ge (off+(n-1)) arr.size with h|h
     ·omega
     ·rw[Array.getElem?_eq_none h] at this;cases this
    refine⟨arr,by simp[fzW,hh],rfl,hlast,?_⟩;apply List.ext_getElem?;intro i;rw[List.getElem?_take]
    split
    ·rename_i hi;rw[List.getElem?_drop];exact(key i hi).symm.trans (Array.getElem?_toList).symm
    ·rw[List.getElem?_eq_none (by omega)]
   |_=>
    have:=hc 0 hn;simp only[World.cell?,hh] at this;rw[List.getElem?_eq_getElem (by omega)] at this;simp at this
 ·cases h
theorem trod_rd:∀(m:Nat) (t:TypeId) (a:Ty),tyX T m t=some a→∀(n:Nat) (cs:List Value) (x:DataW H×List MemPlace),DataW.trod enc P w 0 (fun _=>true) held n t cs=some x→(∀z,z∈x.1.weights P t→z≤reachBytes)→
  ∃y:a.Den,RdC (fzW w) a y cs∧Bd a y
 |0,_,_,h,_,_,_,_,_=>by cases h
 |m+1,t,a,h,n,cs,x,hx,hw=>by
  have ih:=trod_rd m;simp only[tyX] at h
  split at h
  ·rename_i d i hd hi;have hu:=hT.und t d hd
   split at h
   ·cases hb:Nat.beq i.size 1<;>rw[hb] at h<;>cases h;obtain⟨b,rfl, -⟩:=DataW.trod_bool hu hx;exact⟨b,rfl,trivial⟩
   ·cases hb:Nat.beq i.size 1<;>rw[hb] at h<;>cases h;obtain⟨k,rfl, -,hwf⟩:=DataW.trod_int hu hx;simp only[Lit.wf,Bool.and_eq_true,decide_eq_true_eq] at hwf;have hk:inK .u8 k:=hwf;exact⟨UInt8.ofNat k.toNat,by simp only[RdC];rw[←u8_back hk],trivial⟩
   ·cases hb:Nat.beq i.size 1<;>rw[hb] at h<;>cases h;obtain⟨k,rfl, -,hwf⟩:=DataW.trod_int hu hx;simp only[Lit.wf,Bool.and_eq_true,decide_eq_true_eq] at hwf;exact⟨k,rfl,hwf⟩
   ·cases hb:Nat.beq i.size 1<;>rw[hb] at h<;>cases h;obtain⟨s,rfl,rfl, -⟩:=DataW.trod_string hu hx;refine⟨toL s,by simp only[RdC,bs_toL],?_⟩;have:=hw s.data.toList.length (by simp[DataW.weights]);have h2:reachBytes≤reach:=by decide
    exact Nat.le_trans this h2
   ·rename_i e
    split at h
    ·rename_i a' j ha hj;cases hb:(Nat.beq i.size 1&&(!Nat.beq j.bytes 0&& !Nat.beq a'.sz 0))<;>rw[hb] at h<;>cases h;rw[Bool.and_eq_true,Bool.and_eq_true] at hb;have hbytes:j.bytes≠0:=fun e=>by rw[beq_t e] at hb;cases hb.2.1
     have hz:0<a'.sz:=Nat.pos_of_ne_zero fun e=>by rw[beq_t e] at hb;cases hb.2.2
     have hsz:=tyX_sz hT ha;rcases DataW.trod_slice hu hx with⟨rfl, -⟩|⟨ad,len,cap,elems,rest,n',rfl,rfl,rfl, -,hlc, -,hel,hes, -, -⟩
     ·exact⟨[],⟨_,rfl,.inl ⟨⟨_,_,rfl⟩,rfl⟩⟩,by simp[reach],fun x h=>by cases h⟩
     ·simp only[DataW.weights,hu] at hw;have hlen:len≤reach:=by
       have:=hw _ (List.mem_cons_self ..);rw[bytesOf_inf hT hj] at this;have h2:reachBytes≤reach:=by decide
       have h3:(elems.map (·.1)).length=len:=by simpa using hel
       have h4:len*1≤((elems.map (·.1)).length+(rest.map (·.1)).length)*j.bytes:=Nat.mul_le_mul (by omega) (by omega);omega
      have hwe:∀(k:Nat) (z:DataW H×List MemPlace),elems[k]?=some z→∀u,u∈z.1.weights P e→u≤reachBytes:=fun k z hk u hu=>hw u (by
       refine List.mem_cons_of_mem _ (List.mem_append_left _ ?_);have hmem:z.1∈elems.map (·.1):=List.mem_map.2 ⟨z,List.mem_of_getElem? hk,rfl⟩;have gen:∀(l:List (DataW H)) d,d∈l→u∈d.weights P e→u∈DataW.weightsAll P e l:=by
        intro l
        induction l with
        |nil=>intro d h;cases h
        |cons d' l ihl=>
         intro d h hu;simp only[DataW.weightsAll,List.mem_append];rcases List.mem_cons.1 h with rfl|h
         ·exact .inl hu
         ·exact .inr (ihl d h hu)
       exact gen _ _ hmem hu)
      have each:∀k,k<len→∃y:a'.Den,∃cs,w.cells? 0 (ad.add (k*P.cellsOf e)) (P.cellsOf e)=some cs∧RdC (fzW w) a' y cs∧Bd a' y:=fun k hk=>by
       have h1:=hes k hk;rw[List.getElem?_eq_getElem (by omega)] at h1;obtain⟨cs,h2,h3⟩:=Option.bind_eq_some_iff.1 h1;obtain⟨y,h4,h5⟩:=ih e a' ha n' cs _ h3 (hwe k _ (List.getElem?_eq_getElem (by omega)));exact⟨y,cs,h2,h4,h5⟩
      by_cases h0:len=0
      ·subst h0;exact⟨[],⟨_,rfl,.inl ⟨⟨_,_,rfl⟩,rfl⟩⟩,by simp[reach],fun x h=>by cases h⟩
      ·classical
       let f:Nat→a'.Den:=fun k=>if hk:k<len then Classical.choose (each k hk) else a'.dflt
       have hf:∀k,k<len→∃cs,w.cells? 0 (ad.add (k*P.cellsOf e)) (P.cellsOf e)=some cs∧RdC (fzW w) a' (f k) cs∧Bd a' (f k):=fun k hk=>by
        have:=Classical.choose_spec (each k hk);simp only[f,dif_pos hk];exact this
       refine⟨(List.range len).map f,?_,by simpa using hlen,fun x hx=> ?_⟩
       ·refine⟨_,rfl,.inr ?_⟩;obtain⟨blk,off,spot⟩:=ad;rw[hsz] at hf;have hspot:spot=none:=by
         obtain⟨cs0,c1,c2, -⟩:=hf 0 (by omega);obtain⟨arr,d1,d2, -, -⟩:=cells_of c1 hz;simpa[Addr.add] using d2
        subst hspot;simp only[add_none] at hf;obtain⟨cs0,c1,c2, -⟩:=hf 0 (by omega);obtain⟨arr,d1, -, -, -⟩:=cells_of c1 hz;have d1:fzW w blk=some arr:=d1;refine⟨blk,off,cap,arr,by simp,d1,?_,by simpa using hlc,fun k y hk=> ?_⟩
        ·obtain⟨cs1,e1, -⟩:=hf (len-1) (by omega);obtain⟨arr',f1, -,f2, -⟩:=cells_of e1 hz;have f1:fzW w blk=some arr':=f1;rw[d1] at f1;cases f1;have f2:off+(len-1)*a'.sz+a'.sz≤arr.size:=f2;have:len*a'.sz=(len-1)*a'.sz+a'.sz:=by
          conv=>lhs;rw[show len=(len-1)+1 by omega,Nat.succ_mul]
         simp only[List.length_map,List.length_range];omega
        ·have hkl:k<len:=by have:=get_lt hk;simpa using this
         simp only[List.getElem?_map,List.getElem?_range hkl,Option.map_some,Option.some.injEq] at hk;subst hk;obtain⟨cs1,e1,e2, -⟩:=hf k hkl;obtain⟨arr',f1, -, -,f3⟩:=cells_of e1 hz;have f1:fzW w blk=some arr':=f1;rw[d1] at f1;cases f1;have f3:cs1=(arr.toList.drop (off+k*a'.sz)).take a'.sz:=f3;rw[←f3];exact e2
       ·obtain⟨k,hk,rfl⟩:=List.mem_map.1 hx;obtain⟨-, -, -,h⟩:=hf k (List.mem_range.1 hk);exact h
    ·cases h
   ·rename_i fs
    split at h
    ·rename_i a' ha;cases hb:Nat.beq a'.sz i.size<;>rw[hb] at h<;>cases h;have hb:=Nat.eq_of_beq_eq_true hb;obtain⟨xs,n',rfl,rfl,hl,hxl,hxs⟩:=DataW.trod_struct hu hx;rw[cellsOf_inf hT hi,←hb] at hl;simp only[DataW.weights,hu] at hw;have key:∀(fl:List Field) (o:Nat) (b:Ty) (ys:List (DataW H×List MemPlace)),tyFs (tyX T m) fl o=some b→ys.length=fl.length→(∀(k:Nat) f,fl[k]?=some f→DataW.trod enc P w 0 (fun _=>true) held n' f.type ((cs.drop f.offset).take (P.cellsOf f.type))=ys[k]?)→
       (∀z,z∈DataW.weightsEach P (fl.map (·.type)) (ys.map (·.1))→z≤reachBytes)→cs.length=o+b.sz→∃y:b.Den,RdC (fzW w) b y (cs.drop o)∧Bd b y:=by
      intro fl
      induction fl with
      |nil=>
       intro o b ys hty _ _ _ hlen;simp only[tyFs,Option.some.injEq] at hty;subst hty;exact⟨(),by simp only[RdC];exact List.drop_of_length_le (by simp only[Ty.sz] at hlen;omega),trivial⟩
      |cons f fl ihf=>
       intro o b ys hty hyl hys hws hlen;simp only[tyFs] at hty
       split at hty
       ·rename_i a1 ha1;cases hbo:Nat.beq f.offset o<;>rw[hbo] at hty
        ·cases hty
        rw[cond_true] at hty;have hbo:=Nat.eq_of_beq_eq_true hbo
        split at hty
        ·rename_i b1 hb1;cases hty;cases ys with
         |nil=>simp at hyl
         |cons y0 ys=>
          have h0:=hys 0 f rfl;rw[hbo,tyX_sz hT ha1] at h0;simp only[Ty.sz] at hlen;simp only[List.map_cons,DataW.weightsEach,List.mem_append] at hws;obtain⟨u1,q1,q2⟩:=ih f.type a1 ha1 n' _ y0 h0 fun z hz=>hws z (.inl hz)
          obtain⟨u2,q3,q4⟩:=ihf (o+a1.sz) b1 ys hb1 (by simpa using hyl) (fun k f' hk=>by simpa using hys (k+1) f' (by simpa using hk)) (fun z hz=>hws z (.inr hz)) (by omega);refine⟨(u1,u2),⟨_,_,?_,q1,q3⟩,q2,q4⟩;rw[←List.drop_drop];exact(List.take_append_drop _ _).symm
        ·cases hty
       ·cases hty
     have:=key fs.toList 0 a xs ha (by simpa using hxl) (fun k f hk=>hxs k f (by simpa using hk)) (by simpa using hw) (by omega);simpa using this
    ·cases h
   ·rename_i q e
    split at h
    ·rename_i a' ha;cases hb:Nat.beq (tyArr a' q).sz i.size<;>rw[hb] at h<;>cases h;have hb:=Nat.eq_of_beq_eq_true hb;obtain⟨xs,n',rfl,rfl,hl,hxl,hxs⟩:=DataW.trod_array hu hx;rw[cellsOf_inf hT hi,←hb,tyArr_sz] at hl;simp only[DataW.weights,hu] at hw;have hsz:=tyX_sz hT ha;have hwe:∀(z:DataW H×List MemPlace),z∈xs→∀u,u∈z.1.weights P e→u≤reachBytes:=fun z hz u hu'=>hw u (by
      have gen:∀(l:List (DataW H)) d,d∈l→u∈d.weights P e→u∈DataW.weightsAll P e l:=by
       intro l
       induction l with
       |nil=>intro d h;cases h
       |cons d' l ihl=>
        intro d h hu;simp only[DataW.weightsAll,List.mem_append];rcases List.mem_cons.1 h with rfl|h
        ·exact .inl hu
        ·exact .inr (ihl d h hu)
      exact gen _ _ (List.mem_map.2 ⟨z,hz,rfl⟩) hu')
     have key:∀(r o:Nat),o+r=q→∃y:(tyArr a' r).Den,RdC (fzW w) (tyArr a' r) y (cs.drop (o*a'.sz))∧Bd (tyArr a' r) y:=by
      intro r
      induction r with
      |zero=>
       intro o ho;refine⟨(),?_,trivial⟩;simp only[tyArr,RdC];exact List.drop_of_length_le (by rw[hl,←ho,Nat.add_zero];exact Nat.le_refl _)
      |succ r ihr=>
       intro o ho;have h1:=hxs o (by omega);rw[hsz,List.getElem?_eq_getElem (show o<xs.length by omega)] at h1;obtain⟨u1,q1,q2⟩:=ih e a' ha n' _ _ h1 (hwe _ (List.getElem_mem _));obtain⟨u2,q3,q4⟩:=ihr (o+1) (by omega);refine⟨(u1,u2),⟨_,_,?_,q1,q3⟩,q2,q4⟩;rw[Nat.succ_mul,←List.drop_drop];exact(List.take_append_drop _ _).symm
     have:=key q 0 (by omega);simpa using this
    ·cases h
   ·cases h
  ·cases h
def tyXL (T:TE) (m:Nat):List TypeId→Option (List Ty)
 |[]=>some []
 |t::ts=>match tyX T m t,tyXL T m ts with
  |some a,some as=>some (a::as)
  |_,_=>none
omit hT in
theorem tyFs_agg {g:TypeId→Option Ty}:∀{fl:List Field} {o:Nat} {a:Ty},tyFs g fl o=some a→a.agg=true
 |[],o,a,h=>by simp only[tyFs,Option.some.injEq] at h;subst h;rfl
 |f::r,o,a,h=>by
  simp only[tyFs,Bool.cond_eq_ite] at h
  repeat' split at h
  all_goals first|(cases h;rfl)|cases h
theorem arg_rd {m:Nat} {t:TypeId} {a:Ty} (ha:tyX T m t=some a) {v:Value} {base:Nat} (hv:Value.okWide P w .any base t v) {d:DataW H} {ps:List MemPlace} (h:DataW.Trod enc P w 0 (fun _=>true) held t v d ps) (hw:∀z,z∈d.weights P t→z≤reachBytes):
  ∃y:a.Den,RdV (fzW w) a y v∧Bd a y:=by
 obtain⟨n,hn⟩:=h;obtain⟨y,h1,h2⟩:=trod_rd hT m t a ha n _ _ hn hw;refine⟨y,?_,h2⟩;cases m with
 |zero=>cases ha
 |succ m=>
  simp only[tyX] at ha
  split at ha
  ·rename_i d' i hd hi;have hu:=hT.und t d' hd;unfold Value.okWide at hv;rw[hu] at hv;have one:(∀cs,v≠ .agg cs)→a.agg=false→RdV (fzW w) a y v:=fun hne hag=>by
    have:v.cells.toList=[v]:=by cases v<;>first|rfl|exact absurd rfl (hne _)
    rw[this] at h1;exact .inr ⟨hag,h1⟩
   have nagg:∀(d0:TypeDesc),d0=d'→(∀fs,d0≠ .struct fs)→(∀n e,d0≠ .array n e)→Cell.okWide P w .any base t v→∀cs,v≠ .agg cs:=by
    rintro d0 rfl _ _ hc cs rfl;unfold Cell.okWide Cell.ok at hc;rw[hu] at hc;cases d0<;>exact hc
   split at ha
   ·cases hb:Nat.beq i.size 1<;>rw[hb] at ha<;>cases ha;exact one (nagg _ rfl (by simp) (by simp) hv) rfl
   ·cases hb:Nat.beq i.size 1<;>rw[hb] at ha<;>cases ha;exact one (nagg _ rfl (by simp) (by simp) hv) rfl
   ·cases hb:Nat.beq i.size 1<;>rw[hb] at ha<;>cases ha;exact one (nagg _ rfl (by simp) (by simp) hv) rfl
   ·cases hb:Nat.beq i.size 1<;>rw[hb] at ha<;>cases ha;exact one (nagg _ rfl (by simp) (by simp) hv) rfl
   ·simp only[Bool.cond_eq_ite] at ha
    split at ha
    ·split at ha
     ·cases ha;exact one (nagg _ rfl (by simp) (by simp) hv) rfl
     ·cases ha
    ·cases ha
   ·split at ha
    ·rename_i a' ha';cases hb:Nat.beq a'.sz i.size<;>rw[hb] at ha<;>cases ha;obtain⟨cs,rfl, -⟩:=hv;exact .inl ⟨tyFs_agg ha',cs,rfl,h1⟩
    ·cases ha
   ·rename_i q e
    split at ha
    ·rename_i a' ha';cases hb:Nat.beq (tyArr a' q).sz i.size<;>rw[hb] at ha<;>cases ha;obtain⟨cs,rfl, -⟩:=hv;exact .inl ⟨tyArr_agg _ _,cs,rfl,h1⟩
    ·cases ha
   ·cases ha
  ·cases ha
theorem trodAll_rd {m:Nat} {base:Nat}:∀{ts:List TypeId} {vs:List Value} {ds:List (DataW H)} {ps:List MemPlace} {as:List Ty},DataW.TrodAll enc P w 0 (fun _=>true) held ts vs ds ps→tyXL T m ts=some as→
  (∀(j:Nat) t v,ts[j]?=some t→vs[j]?=some v→Value.okWide P w .any base t v)→(∀z,z∈DataW.weightsEach P ts ds→z≤reachBytes)→∃x:DenL as,RdAll (fzW w) as x vs∧BdL as x
 |[],[],[],ps,as,_,ha,_,_=>by
  simp only[tyXL,Option.some.injEq] at ha;subst ha;exact⟨(),rfl,trivial⟩
 |t::ts,v::vs,d::ds,ps,as,h,ha,hv,hw=>by
  obtain⟨p,q,h1,h2,rfl⟩:=h;simp only[tyXL] at ha
  split at ha
  ·rename_i a as' h3 h4;cases ha;simp only[DataW.weightsEach,List.mem_append] at hw;obtain⟨y,g1,g2⟩:=arg_rd hT h3 (hv 0 t v rfl rfl) h1 fun z hz=>hw z (.inl hz)
   obtain⟨x,g3,g4⟩:=trodAll_rd h2 h4 (fun j t v a b=>hv (j+1) t v (by simpa using a) (by simpa using b)) fun z hz=>hw z (.inr hz)
   exact⟨(y,x),⟨v,vs,rfl,g1,g3⟩,g2,g4⟩
  ·cases ha
 |[],_::_,_,_,_,h,_,_,_=>by cases h
 |[],[],_::_,_,_,h,_,_,_=>by cases h
 |_::_,[],_,_,_,h,_,_,_=>by cases h
 |_::_,_::_,[],_,_,h,_,_,_=>by cases h
omit hT in
theorem trodAll_carry {w':World} (hs:Same w w') (K:Kids P (· <P.types.size)) (hz:∀t e,t<P.types.size→P.underlying t=some (.slice e)→0<P.cellsOf e):∀{ts:List TypeId} {vs:List Value} {ds:List (DataW H)} {ps:List MemPlace},
  (∀t,t∈ts→t<P.types.size)→DataW.TrodAll enc P w 0 (fun _=>true) true ts vs ds ps→(∀p,p∈ps→sp p.block=true)→DataW.TrodAll enc P w' 0 sp true ts vs ds ps:=by
 intro ts vs ds ps ht h hsp;have hlt:=DataW.TrodAll.lt h;have h1:DataW.TrodAll enc P w' 0 (fun _=>true) true ts vs ds ps:=by
  clear hsp ht
  revert ts vs ds ps
  intro ts
  induction ts with
  |nil=>
   intro vs ds ps h _;cases vs<;>cases ds<;>first|exact h|cases h
  |cons t ts ih=>
   intro vs ds ps h hlt;cases vs with
   |nil=>cases ds<;>cases h
   |cons v vs=>
    cases ds with
    |nil=>cases h
    |cons d ds=>
     obtain⟨p,q,⟨n,h1⟩,h2,rfl⟩:=h;refine⟨p,q,⟨n,DataW.trod_carry n _ _ _ h1 fun x hx=> ?_⟩,ih h2 fun x hx=>hlt x (List.mem_append_right _ hx),rfl⟩;have:=hlt x (List.mem_append_left _ hx);cases x with
     |cell b off=>simp only[World.sameAt,World.cell?,hs.2.2.2 b this]
     |map b=>exact hs.2.2.2 b this
 exact DataW.TrodAll.respare K hz ht h1 hsp
omit hT in
theorem law_calls {gl:List (Nat×List Value)} {f:FuncId} {as:List Ty} {pre:DenL as→Bool} {g:DenL as→DenL [.bool]} (hC:PureC P gl f ⟨as,[.bool],pre,g⟩) (hg:∀x,BdL as x→pre x=true∧g x=(true,())) (hgl:GlW gl w)
  {args:Array Value} {x:DenL as} (hx:RdAll (fzW w) as x args.toList) (hb:BdL as x):Calls P f args w fun e w'=>e=.returned (.bool true)∧Same w w':=by
 obtain⟨h1,h2⟩:=hg x hb;refine(hC (fzW w) w args x (fzW_ok w) hgl hx h1).mono ?_;rintro e w' ⟨vs,fz',rfl, -, -, -,h3,h4⟩;refine⟨?_,h4⟩;have h3:RdAll fz' [.bool] (g x) vs:=h3;rw[h2] at h3;obtain⟨v,r,rfl,h5,rfl⟩:=h3;rcases h5 with⟨hag, -⟩|⟨-,h5⟩
 ·cases hag
 ·simp only[RdC,List.cons.injEq,and_true] at h5;subst h5;rfl
omit hT in
theorem pure_true {gl:List (Nat×List Value)} {f:FuncId} (h:∀w,GlW gl w→Calls P f #[] w fun e w'=>e=.returned (.bool true)∧Same w w'):PureC P gl f ⟨[],[.bool],fun _=>true,fun _=>(true,())⟩:=by
 intro fz w args x hz hgl hrd _;have hrd:args.toList=[]:=hrd;obtain rfl:args=#[]:=by cases args;simp_all
 refine(h w hgl).mono ?_;rintro e w' ⟨rfl,hs⟩;refine⟨[.bool true],fz,rfl,fun _ _ h=>h,fun b c hb=> ?_,fun _ _ h=>.inl h,⟨_,_,rfl,.inr ⟨rfl,rfl⟩,rfl⟩,hs⟩;obtain⟨e,fr,hh⟩:=hz b c hb;exact⟨e,fr,by rw[hs.2.2.2 b (heap_lt hh)];exact hh⟩
end
end Go.Eng
end
end
end
section
noncomputable section
noncomputable section
namespace Go.Eng
open Go
def dfltO:(rs:List OT)→DenO rs
 |[]=>()
 |r::rs=>(r.dflt,dfltO rs)
def sigI (rb:Bool) (ri:Nat) (root:OT) (re:TypeId) (ts rs:List OT):OSpec:=⟨rb,ri,root,re,ts,rs,fun _ _=>true,fun _ _=>(root.dflt,dfltO rs)⟩
def sigO (rb:Bool) (root:OT) (re:TypeId) (ts rs:List OT):OSpec:=⟨rb,0,root,re,ts,rs,fun _ _=>true,fun _ _=>(root.dflt,dfltO rs)⟩
def ofOO (S:OSpec) (g:S.root.Den→DenO S.ts→Option (S.root.Den×DenO S.rs)):OSpec:=⟨S.rb,S.ri,S.root,S.re,S.ts,S.rs,fun x y=>(g x y).isSome,fun x y=>(g x y).getD (S.root.dflt,dfltO S.rs)⟩
def niceO (S:OSpec) (pre:S.root.Den→DenO S.ts→Bool) (g:S.root.Den→DenO S.ts→S.root.Den×DenO S.rs):OSpec:=⟨S.rb,S.ri,S.root,S.re,S.ts,S.rs,pre,g⟩
def entR (E:Env) (S:OSpec) (x:S.root.Den):List Value×List Nat×St:=
 bif S.rb then match matO S.root x (glSt E) with
  |(vs,σ)=>([.pointer (some ⟨σ.next,0,none⟩)],[σ.next],σ.new (.row vs S.re false))
 else([],[],glSt E)
def rootF (σ:St) (S:OSpec) (rid:List Nat):Option (CO S.root.Den):=
 bif S.rb then match rid with
  |[k]=>match rootV σ S (.pointer (some ⟨k,0,none⟩)) with
   |some (c,_)=>some c
   |none=>none
  |_=>none
 else match rid with
  |[]=>some ⟨S.root.dflt,[],[],[],[],[]⟩
  |_=>none
def finOO (E:Env) (fn:Func) (S:OSpec) (rid:List Nat) (e:Exit) (s:Tr Value) (σ:St):Option (S.root.Den×DenO S.rs):=
 match(match e with| .normal=>true| .ret=>true|_=>false) with
 |true=>match resAll E s σ fn.results.toList with
  |some (vs,_)=>match rootF σ S rid with
   |some c=>match resD σ S.rs vs with
    |some d=>bif nodupB (rid++((c.g++d.g)++(c.f++d.f)))&&isWr σ (rid++((c.g++d.g)++(c.f++d.f)))&&isLive σ (c.i++d.i) then gd (c.p++d.p) (some (c.x,d.x)) else none
    |none=>none
   |none=>none
  |none=>none
 |false=>none
def fOON (P:Program) (E:Env) (sh:Shapes) (fn:Func) (S:OSpec) (N:Nat) (x:S.root.Den) (y:DenO S.ts):Option (S.root.Den×DenO S.rs):=
 match entR E S x with
 |(rv,rid,σ)=>match matR S.ts y σ with
  |(vs,σ')=>zc P E rid sh (zG P E rid sh (finOO E fn S rid) 1000 fn.ntmps 1000 N) (finOO E fn S rid) 1000 fn.ntmps 1000 (.run (bodyOf fn) []) (initS 0 (insR S.ri rv vs) .lf) σ'
def fOO (P:Program) (E:Env) (sh:Shapes) (fn:Func) (S:OSpec) (x:S.root.Den) (y:DenO S.ts):Option (S.root.Den×DenO S.rs):=fOON P E sh fn S heads0 x y
def rOO (P:Program) (E:Env) (sh:Shapes) (fn:Func) (S:OSpec) (rid:List Nat) (n:Nat):Rest (S.root.Den×DenO S.rs):=zG P E rid sh (finOO E fn S rid) 1000 fn.ntmps 1000 n
def rHO (P:Program) (E:Env) (sh:Shapes) (fn:Func) (S:OSpec) (rid:List Nat) (n k:Nat) (l:List (Nat×Value)) (objs:List AO):Option (S.root.Den×DenO S.rs):=atHead (rOO P E sh fn S rid n) (hdN fn k) l objs
section
variable {P:Program}
theorem LR.mono {D D':Nat→Prop} {ι ι':Nat→Reg} (hD:∀i,D i→D' i) (hi:∀i,D i→ι' i=ι i):∀{vs us:List Value},LR D ι vs us→LR D' ι' vs us
 |_,_,.nil=>.nil
 |_,_,.cons h t=>.cons (h.mono hD hi) (LR.mono hD hi t)
theorem rootF_spec {σ:St} {S:OSpec} {rid:List Nat} {c:CO S.root.Den} (h:rootF σ S rid=some c):
  (S.rb=true∧∃id cs,rid=[id]∧σ.heap.get id=some (.row cs S.re false)∧objD σ S.root cs=some c∧c.r=[])∨(S.rb=false∧rid=[]∧c=⟨S.root.dflt,[],[],[],[],[]⟩):=by
 unfold rootF at h;cases hb:S.rb
 ·rw[hb,cond_false] at h
  split at h
  ·simp only[Option.some.injEq] at h;exact .inr ⟨rfl,rfl,h.symm⟩
  ·cases h
 ·rw[hb,cond_true] at h
  split at h
  ·rename_i k
   split at h
   ·rename_i c' id hv;simp only[Option.some.injEq] at h;subst h;obtain⟨cs,h1,h2,h3,h4⟩:=rootV_spec hv;cases h1;exact .inl ⟨rfl,_,cs,rfl,h2,h3,h4⟩
   ·cases h
  ·cases h
def QOO (P:Program) (fn:Func) (S:OSpec) (r:Reg) (own:List Nat) (z:S.root.Den×DenO S.rs) (fz0:Nat→Option (Array Value)) (w0:World):Exit→Act→World→Prop:=
 bodyPost P fn fun e w'=>FzOK fz0 w0→(∀b,b∈roB S.rb r++own→fz0 b=none)→ObjQ P S fz0 w0 r own z e w'
variable {E:Env} (hE:E.OK P)
include hE
theorem finOO_at {nt:Nat} {r:Reg} {own rid:List Nat} {fz0:Nat→Option (Array Value)} {fn:Func} {S:OSpec} {z:S.root.Den×DenO S.rs} (hrown:S.rb=true→r.own=true) (e:Exit) (s:Tr Value) (σ:St) (h:finOO E fn S rid e s σ=some z):
  At P E nt (rid.map fun k=>(k,r)) (QOO P fn S r own z fz0) (fun _ b=>b∈roB S.rb r++own) (fun _ b=>∃c,fz0 b=some c) (.out e []) s σ:=by
 unfold finOO at h
 split at h
 ·rename_i he
  split at h
  ·rename_i vs φ hr
   split at h
   ·rename_i c hroot
    split at h
    ·rename_i d hres;cases hb:(nodupB (rid++((c.g++d.g)++(c.f++d.f)))&&isWr σ (rid++((c.g++d.g)++(c.f++d.f)))&&isLive σ (c.i++d.i))
     ·rw[hb] at h;cases h
     rw[hb,cond_true] at h;simp only[Bool.and_eq_true] at hb;obtain⟨⟨b2,b3⟩,b4⟩:=hb;have b2:=nodupB_spec b2;have b3:=isWr_spec b3;have b4:=isLive_spec b4;obtain⟨hps,hz⟩:=gd_some h;cases hz;obtain⟨hp1,hp2⟩:=AllP_append hps;intro w0 a w hs;have key:a.defers=[]∧∃v,(results fn a.tmps).run P w=.ok v w∧(FzOK fz0 w0→(∀b,b∈roB S.rb r++own→fz0 b=none)→ObjQ P S fz0 w0 r own (c.x,d.x) (.returned v) w):=by
      obtain⟨D,ι,hwf,hG,hD,hsr,hall,hdf,q1,q2,q3,q4,q5,q6,q7⟩:=hs;obtain⟨l,r1,r2⟩:=results_list hE hr hsr (hall.on _);refine⟨hdf,resV l,r1,fun hz0 hno=> ?_⟩;have hpin:∀k,k∈rid→ι k=r:=fun k hk=>(q7 (k,r) (List.mem_map_of_mem (f:=fun k=>(k,r)) hk)).2
      have hspec:=rootF_spec hroot;have hG1:∀id,id∈rid++(c.g++d.g)→id∈rid++((c.g++d.g)++(c.f++d.f)):=fun id h=>by
       simp only[List.mem_append] at h⊢;rcases h with h|h
       ·exact .inl h
       ·exact .inr (.inl h)
      have hG2:∀id,id∈c.f++d.f→id∈rid++((c.g++d.g)++(c.f++d.f)):=fun id h=>List.mem_append_right _ (List.mem_append_right _ h)
      have hroB:roB S.rb r=ownL ι rid:=by
       rcases hspec with⟨hb,id,cs,rfl,hg,_⟩|⟨hb,h2,_⟩
       ·rw[ownL_one,hpin id (by simp),hrown hb];simp[roB,hb]
       ·rw[h2];simp[roB,hb,ownL]
      have hall':roB S.rb r++(ownL ι c.g++ownL ι d.g)=ownL ι (rid++(c.g++d.g)):=by rw[hroB,ownL_append,ownL_append]
      have hnd:(rid++(c.g++d.g)).Nodup:=by
       rw[←List.append_assoc] at b2;exact(List.nodup_append.1 b2).1
      have hdis:∀id,id∈rid++(c.g++d.g)→id∉c.f++d.f:=by
       rw[←List.append_assoc] at b2;exact fun id h h'=>(List.nodup_append.1 b2).2.2 id h id h' rfl
      have hinj:∀i j,i∈rid++(c.g++d.g)→Lv σ.H j→i≠j→∀b,(ι i).Own b→¬(ι j).Own b∧¬(ι j).Fz b:=fun i j hi hj hij b hb=>hall.inj i j (b3 i (hG1 i hi)) hj hij b hb
      have hself:∀i,i∈rid++(c.g++d.g)→∀b,(ι i).Own b→¬(ι i).Fz b:=fun i hi b hb=>by
       obtain⟨y,hy,_⟩:=b3 i (hG1 i hi);exact(hall.hd i y hy).self hb
      have noFz:∀b,b∈roB S.rb r++(ownL ι c.g++ownL ι d.g)→∀j,Lv σ.H j→¬(ι j).Fz b:=fun b hb j hj hz=>by
       rw[hall'] at hb;obtain⟨id,h1,h2⟩:=ownL_mem.1 hb;by_cases e:id=j
       ·subst e;exact hself id h1 b h2 hz
       ·exact(hinj id j h1 hj e b h2).2 hz
      have noOwn:∀b,b∈roB S.rb r++(ownL ι c.g++ownL ι d.g)→∀j,j∈c.f++d.f→¬(ι j).Own b:=fun b hb j hj ho=>by
       rw[hall'] at hb;obtain⟨id,h1,h2⟩:=ownL_mem.1 hb;exact(hinj id j h1 (b3 j (hG2 j hj)).lv (fun e=>hdis id h1 (e▸hj)) b h2).1 ho
      let fz':Nat→Option (Array Value):=fun b=>if b∈roB S.rb r++(ownL ι c.g++ownL ι d.g) then none else if b<w0.heap.size∧b∉roB S.rb r++own then fz0 b else(match w.heap[b]? with|some (.cells c _ _)=>some c|_=>none)
      have fz1:∀b cc,fz0 b=some cc→b<w0.heap.size∧b∉roB S.rb r++own∧∃e fr,w.heap[b]?=some (.cells cc e fr):=fun b cc h=>by
       obtain⟨e,fr,h'⟩:=hz0 b cc h;have hlt:=heap_lt h';have hnb:b∉roB S.rb r++own:=fun hm=>by rw[hno b hm] at h;cases h
       exact⟨hlt,hnb,e,fr,by rw[q4 b hlt hnb];exact h'⟩
      have rdF:∀b cc e fr,b∉roB S.rb r++(ownL ι c.g++ownL ι d.g)→w.heap[b]?=some (.cells cc e fr)→(w0.heap.size≤b∨b∈roB S.rb r++own∨∃c0,fz0 b=some c0)→fz' b=some cc:=fun b cc e fr hnb hh hcase=>by
       simp only[fz',if_neg hnb];by_cases hlt:b<w0.heap.size∧b∉roB S.rb r++own
       ·rw[if_pos hlt];rcases hcase with h|h|⟨c0,h⟩
        ·omega
        ·exact absurd h hlt.2
        ·obtain⟨_,_,e',fr',h'⟩:=fz1 b c0 h;rw[hh] at h';cases h';exact h
       ·rw[if_neg hlt,hh]
      have hX1:∀b cc,fzC ι (c.i++d.i) (c.f++d.f) w b=some cc→fz' b=some cc:=fun b cc h=>by
       obtain⟨e,fr,hh⟩:=fzC_ok b cc h;rcases fzC_in h with⟨j,j1,j2⟩|⟨j,j1,j2|j2⟩
       ·exact rdF b cc e fr (fun hm=>noFz b hm j (b4 j j1) j2) hh (q6 j (b4 j j1) b j2)
       ·exact rdF b cc e fr (fun hm=>noOwn b hm j j1 j2) hh ((q5 j (b3 j (hG2 j j1)) b j2).imp_right .inl)
       ·exact rdF b cc e fr (fun hm=>noFz b hm j (b3 j (hG2 j j1)).lv j2) hh (q6 j (b3 j (hG2 j j1)).lv b j2)
      have hX2:∀id,id∈c.g++d.g→FzOK (ι id).fz w→∀b cc,(ι id).fz b=some cc→fz' b=some cc:=fun id hid hz b cc hb=>by
       obtain⟨e,fr,hh⟩:=hz b cc hb;have hl:=(b3 id (hG1 id (List.mem_append_right _ hid))).lv;exact rdF b cc e fr (fun hm=>noFz b hm id hl ⟨cc,hb⟩) hh (q6 id hl b ⟨cc,hb⟩)
      have hd':∀id,id∈c.i++d.i∨id∈c.g++d.g∨id∈c.f++d.f→∀x,σ.H.hdr id=some x→HdrOK P ι id w x:=fun id _ x hx=>hall.hd id x hx
      have hce':∀id,id∈c.g++d.g∨id∈c.f++d.f→∀k v,Lv σ.H id→σ.H.cell id k=some v→CellOK D ι id w k v:=fun id _ k v hl hv=>hall.ce id k v hl hv
      have hRR:=resD_rd hX1 hX2 hd' hce' S.rs vs l d hres (fun _ h=>List.mem_append_right _ h) (fun _ h=>List.mem_append_right _ h) (fun _ h=>List.mem_append_right _ h) hp2 (LR.of_AR r2);have hRt:S.rb=true→RootOK P w fz' r S.root S.re c.x (ownL ι c.g):=fun hrb=>by
       rcases hspec with⟨hb,id,cs,rfl,hg,hob,hcr⟩|⟨hb,_⟩
       ·have hio:=hpin id (by simp);have hh:=hall.hd id _ (St.hdr_of hg);have hh2:=hh;obtain⟨arr,el,fr,e1,e2,e3,⟨e4,e5⟩,e6⟩:=hh2;have e3:cs.length≤(ι id).room:=e3;have hlen:((arr.toList.drop (ι id).base).take cs.length).length=cs.length:=by
         simp only[List.length_take,List.length_drop,Array.length_toList];omega
        have hcell:∀k,k<cs.length→∃u,arr.toList[(ι id).base+k]?=some u∧∃v,cs[k]?=some v∧VR D ι v u:=by
         intro k hk;obtain⟨_,u,hu,hvu⟩:=hall.ceR id k cs[k] (St.hdr_of hg) (by rw[St.cell_of hg];exact List.getElem?_eq_getElem hk);simp only[World.cell?,e1,Option.isSome_none,Bool.false_eq_true,if_false] at hu;exact⟨u,by rw[Array.getElem?_toList];exact hu,cs[k],List.getElem?_eq_getElem hk,hvu⟩
        have hlr0:LR D ι cs ((arr.toList.drop (ι id).base).take cs.length):=by
         refine LR.of_AR ⟨by simpa using hlen.symm,fun i a b ha hb=> ?_⟩;simp only[List.getElem?_toArray] at ha hb;rw[List.getElem?_take] at hb
         split at hb
         ·rename_i hi;obtain⟨u,hu,v,hv',hvu⟩:=hcell i hi;rw[List.getElem?_drop,hu] at hb;rw[hv'] at ha;cases ha;cases hb;exact hvu
         ·cases hb
        obtain⟨u1,u2,hu,k1,k2⟩:=objD_rd hX1 hX2 hd' hce' S.root cs _ c hob (fun _ h=>List.mem_append_left _ h) (fun _ h=>List.mem_append_left _ h) (fun _ h=>List.mem_append_left _ h) hp1 hlr0;rw[hcr] at k2;cases k2;rw[List.append_nil] at hu;refine⟨u1,?_,fun k u hk=> ?_,k1⟩
        ·rw[←hu,hlen];exact HdrOK.as (ι0:=fun _=>r) hh hio.symm
        ·rw[←hio];rw[←hu,List.getElem?_take] at hk
         split at hk
         ·rw[List.getElem?_drop,Array.getElem?_toList] at hk;simp only[World.cell?,e1,Option.isSome_none,Bool.false_eq_true,if_false];exact hk
         ·cases hk
       ·rw[hrb] at hb;cases hb
      have hN:(roB S.rb r++(ownL ι c.g++ownL ι d.g)).Nodup:=by
       rw[hall'];exact ownL_nodup hnd fun i j hi hj hij b hb=>(hinj i j hi (b3 j (hG1 j hj)).lv hij b hb).1
      have hfrom:∀b,b∈ownL ι c.g++ownL ι d.g→w0.heap.size≤b∨b∈roB S.rb r++own:=fun b hb=>by
       rw[←ownL_append] at hb;obtain⟨id,h1,h2⟩:=ownL_mem.1 hb;exact q5 id (b3 id (hG1 id (List.mem_append_right _ h1))) b h2
      have hnro:∀b,b∈ownL ι c.g++ownL ι d.g→b∉roB S.rb r:=fun b hb hb'=>(List.nodup_append.1 hN).2.2 b hb' b hb rfl
      refine⟨l,fz',ownL ι c.g,ownL ι d.g,rfl,fun b cc h=> ?_,fun b cc h=> ?_,fun b cc h=> ?_,hN,fun b hb=>by simp only[fz',if_pos hb],fun b hb=> ?_,hRt,fun hrb=> ?_,hRR,q1,q2,q3,fun b hb hnb=>q4 b hb hnb⟩
      ·obtain⟨h1,h2,e,fr,h3⟩:=fz1 b cc h;refine rdF b cc e fr (fun hm=> ?_) h3 (.inr (.inr ⟨cc,h⟩));rcases List.mem_append.1 hm with hm|hm
       ·exact h2 (List.mem_append_left _ hm)
       ·exact(hfrom b hm).elim (fun h=>by omega) h2
      ·simp only[fz'] at h
       split at h
       ·cases h
       ·split at h
        ·exact(fz1 b cc h).2.2
        ·split at h
         ·rename_i c' e fr hh;cases h;exact⟨e,fr,hh⟩
         ·cases h
      ·simp only[fz'] at h
       split at h
       ·cases h
       ·rename_i hnb
        split at h
        ·exact .inl h
        ·rename_i hlt;by_cases h1:b<w0.heap.size
         ·refine .inr (.inr ?_);have:b∈roB S.rb r++own:=Decidable.byContradiction fun h2=>hlt ⟨h1,h2⟩
          exact(List.mem_append.1 this).resolve_left fun h2=>hnb (List.mem_append_left _ h2)
         ·exact .inr (.inl (by omega))
      ·rcases hfrom b hb with h|h
       ·exact .inr h
       ·exact .inl ((List.mem_append.1 h).resolve_left (hnro b hb))
      ·rcases hspec with⟨hb,_⟩|⟨_,_,h2⟩
       ·rw[hrb] at hb;cases hb
       ·rw[h2];rfl
     cases e with
     |normal=>exact key
     |ret=>exact key
     |_=>cases he
    ·cases h
   ·cases h
  ·cases h
 ·cases h
omit hE in
theorem MatP.hall {w:World} {fz:Nat→Option (Array Value)} {own:List Nat} {D:Nat→Prop} {ι ι':Nat→Reg} {σ σ':St} (m:MatP P w fz own D ι σ σ' ι') (h:HAll P D ι σ.H w) (hD:∀id,D id→id<σ.next) (hro:∀id,¬Wr σ.H id)
  (hfar:∀id,Lv σ.H id→∀b,b∈own→¬(ι id).Own b∧¬(ι id).Fz b) (hno:∀b,b∈own→fz b=none):HAll P (fun i=>D i∨σ.rng σ' i) ι' σ'.H w:=by
 have hold:∀id,¬σ.rng σ' id→σ'.H.hdr id=σ.H.hdr id:=fun id hr=>by simp only[St.H,m.a.old id hr]
 refine⟨fun id x hx=> ?_,fun id k v hl hx=> ?_,fun i j li lj hij b hb=> ?_⟩
 ·by_cases hr:σ.rng σ' id
  ·obtain⟨o,g1,g2,g3⟩:=m.new id hr;rw[St.hdr_of g1] at hx;cases hx;exact g2
  ·rw[hold id hr] at hx;exact(h.hd id x hx).as (m.io id hr)
 ·by_cases hr:σ.rng σ' id
  ·obtain⟨o,g1,g2,g3⟩:=m.new id hr;simp only[St.H,g1] at hx;exact g3 k v hx
  ·have e2:σ'.H.cell id k=σ.H.cell id k:=by simp only[St.H,m.a.old id hr]
   rw[e2] at hx;exact(h.ce id k v (hl.of_hdr (hold id hr)) hx).into (m.io id hr) (fun _=>.inl) fun i hi=>m.io i fun hr=>by have:=hD i hi;have:=hr.1;omega
 ·by_cases hi:σ.rng σ' i
  ·have hbo:=m.own i hi b hb;by_cases hj:σ.rng σ' j
   ·refine⟨m.dist i j hi hj hij b hb,fun⟨c,hz⟩=> ?_⟩;have h1:=m.fz j hj b c hz;rw[hno b hbo] at h1;cases h1
   ·rw[m.io j hj];exact hfar j (lj.of_hdr (hold j hj)) b hbo
  ·exact absurd (li.of_hdr (hold i hi)) (hro i)
theorem objO (hne:∀p,p∈E.gl→p.2≠[]) {sh:Shapes} {S:OSpec} {f:FuncId} {fn:Func} (hfn:P.funcs[f]?=some fn) (hb:fn.body.isSome=true) (hnt:S.ts.length+1≤fn.ntmps):ObjC P E.gl f (ofOO S (fOO P E sh fn S)):=by
 obtain⟨body,hb⟩:=Option.isSome_iff_exists.1 hb;intro fz w r own1 own2 args x y hz hgl hN hF0 hGo hRt hRn hRA hpre;have hN:(roB S.rb r++(own1++own2)).Nodup:=hN;have hF0:∀b,b∈roB S.rb r++(own1++own2)→fz b=none:=hF0;have hGo:∀p,p∈E.gl→p.1∉roB S.rb r++(own1++own2):=hGo;have hRt:S.rb=true→RootOK P w fz r S.root S.re x own1:=hRt
 have hRn:S.rb=false→own1=[]:=hRn;have hRA:RdR P w fz S.ts y args own2:=hRA;have hpre:(fOO P E sh fn S x y).isSome=true:=hpre;obtain⟨z,hy⟩:=Option.isSome_iff_exists.1 hpre;have hg:(ofOO S (fOO P E sh fn S)).g x y=z:=by show(fOO P E sh fn S x y).getD _=z;rw[hy];rfl
 rw[hg];have hn2:=List.nodup_append.1 hN;have hn3:=List.nodup_append.1 hn2.2.1;have hwf0:=glSt_wf hE [];have hall0:=glSt_hall (P:=P) hne [] hgl;obtain⟨rv,rid,σ1,ι1,he,hm1,hLr,hrid⟩:∃(rv:List Value) (rid:List Nat) (σ1:St) (ι1:Nat→Reg),entR E S x=(rv,rid,σ1)∧MatP P w fz (own1++roB S.rb r) (fun id=>id<E.G) (glReg w) (glSt E) σ1 ι1∧
   LR (fun i=>i<E.G∨(glSt E).rng σ1 i) ι1 rv (roV S.rb r)∧(∀k,k∈rid→ι1 k=r∧(glSt E).rng σ1 k):=by
  cases hrb:S.rb
  ·refine⟨[],[],glSt E,glReg w,by simp[entR,hrb],?_,by simp only[roV,cond_false];exact .nil,fun k h=>by cases h⟩;rw[hRn hrb];exact .refl
  ·obtain⟨us,r1,r2,r3⟩:=hRt hrb;have hD0:∀(σ':St) id,(glSt E).rng σ' id→¬id<E.G:=fun σ' id hr hlt=>by have:E.G≤id:=hr.1;omega
   obtain⟨ι1,k1,k2,k3⟩:=matO_ok hz S.root x us own1 (fun id=>id<E.G) (glReg w) (glSt E) r3 hn3.1 (hD0 _);have hown:r.own=true:=by obtain⟨_,_,_,_,_,_,⟨h,_⟩,_⟩:=r1;exact h
   have hfz:∀b c,r.fz b=some c→fz b=some c:=fun b c h=>by
    obtain⟨_,_,_,_,_,_,⟨_,h'⟩,_⟩:=r1;exact absurd ⟨c,h⟩ (h' b)
   generalize hm:matO S.root x (glSt E)=m at k1 k2 k3;have hle:=k1.a.le;have hD1:∀id,id<E.G∨(glSt E).rng m.2 id→id≠m.2.next:=fun id hid e=>by
    rcases hid with hid|hid
    ·have hle:E.G≤m.2.next:=hle;omega
    ·have:=hid.2;omega
   have one:MatP P w fz (bif r.own then [r.blk] else []) (fun i=>i<E.G∨(glSt E).rng m.2 i) ι1 m.2 (m.2.new (.row m.1 S.re false)) (upd ι1 m.2.next r):=by
    refine .one (by simpa only[AO.hd,k2] using r1) (fun k v hk=> ?_) hfz;have hk:m.1[k]?=some v:=hk;have hlt:k<us.length:=by
     rcases Nat.lt_or_ge k us.length with h|h
     ·exact h
     ·rw[List.getElem?_eq_none (by omega)] at hk;cases hk
    refine⟨by rw[upd_eq];exact hown,us[k],by rw[upd_eq];exact .inl (r2 k _ (List.getElem?_eq_getElem hlt)),?_⟩;exact(k3 k v _ hk (List.getElem?_eq_getElem hlt)).mono (fun _ h=>h) fun i hi=>upd_ne _ _ (hD1 i hi)
   rw[hown,cond_true] at one;have all:=k1.trans (hD0 _) one fun b hb hb'=>by
    have h1:b∈roB S.rb r:=by rw[hrb];exact hb'
    exact hn2.2.2 b h1 b (List.mem_append_left _ hb) rfl
   have hin:(glSt E).rng (m.2.new (.row m.1 S.re false)) m.2.next:=⟨hle,by simp[St.new]⟩
   refine⟨_,_,_,_,by simp only[entR,hrb,cond_true,hm];rfl,all,?_,fun k hk=> ?_⟩
   ·have:=VR.ptr (D:=fun i=>i<E.G∨(glSt E).rng (m.2.new (.row m.1 S.re false)) i) (ι:=upd ι1 m.2.next r) m.2.next 0 (.inr hin);rw[upd_eq,Nat.add_zero] at this;exact .cons this .nil
   ·rw[List.mem_singleton] at hk;subst hk;exact⟨upd_eq ..,hin⟩
 have hle1:E.G≤σ1.next:=hm1.a.le;have hD1:∀id,σ1.rng (matR S.ts y σ1).2 id→¬(id<E.G∨(glSt E).rng σ1 id):=fun id hr hid=>by
  have:=hr.1;rcases hid with hid|hid
  ·omega
  ·have:=hid.2;omega
 obtain⟨ι2,k1,k2⟩:=matR_ok hz S.ts y args own2 _ ι1 σ1 hRA hn3.2.1 hD1;generalize hm:matR S.ts y σ1=m at k1 k2 hD1;have hle2:=k1.a.le;have all:=hm1.trans (fun id hr (hlt:id<E.G)=>by have:E.G≤id:=hr.1;omega) k1 fun b hb hb'=>by
  rcases List.mem_append.1 hb with hb|hb
  ·exact hn3.2.2 b hb b hb' rfl
  ·exact hn2.2.2 b hb b (List.mem_append_right _ hb') rfl
 have hsub:∀b,b∈(own1++roB S.rb r)++own2→b∈roB S.rb r++(own1++own2):=fun b hb=>by
  simp only[List.mem_append] at hb⊢;rcases hb with(hb|hb)|hb
  ·exact .inr (.inl hb)
  ·exact .inl hb
  ·exact .inr (.inr hb)
 have hroS:∀id,¬Wr (glSt E).H id:=fun id ⟨y,hy,hw⟩=>by
  obtain⟨p,_,_,_,rfl⟩:=glSt_ro (E:=E) [] hy;cases hw
 have hglOwn:∀id b,(glReg w id).Own b→b=id:=fun id b h=>h.2.symm
 have hHall:HAll P (fun i=>i<E.G∨(glSt E).rng m.2 i) ι2 m.2.H w:=MatP.hall all hall0 (fun id h=>h) hroS (fun id hl b hb=>⟨fun ho=>by
  obtain⟨x0,hx0⟩:=hl;obtain⟨p,h1,h2,_⟩:=glSt_ro (E:=E) [] hx0;have:=hglOwn id b ho;exact hGo p h1 (by rw[h2,←this];exact hsub b hb),rg_fz _ _ _ _ b⟩) fun b hb=>hF0 b (hsub b hb)
 have hlen:(insR S.ri rv m.1).length=(insR S.ri (roV S.rb r) args).length:=by
  simp only[insR,List.length_append,List.length_take,List.length_drop,hLr.len,k2.len]
 have har:AR (fun i=>i<E.G∨(glSt E).rng m.2 i) ι2 (insR S.ri rv m.1).toArray (insR S.ri (roV S.rb r) args).toArray:=by
  have h1:LR (fun i=>i<E.G∨(glSt E).rng m.2 i) ι2 rv (roV S.rb r):=
   LR.mono (fun i hi=>hi.imp_right fun h=>⟨h.1,by have:=h.2;omega⟩) (fun i hi=>k1.io i fun hr=>hD1 i hr hi) hLr
  have h2:LR (fun i=>i<E.G∨(glSt E).rng m.2 i) ι2 m.1 args:=LR.mono (fun i hi=>by
   rcases hi with(hi|hi)|hi
   ·exact .inl hi
   ·exact .inr ⟨hi.1,by have:=hi.2;omega⟩
   ·exact .inr ⟨(by have:=hi.1;have:E.G≤i:=by omega
                    exact this),hi.2⟩) (fun _ _=>rfl) k2
  exact(LR.append (LR.take S.ri h2) (LR.append h1 (LR.drop S.ri h2))).AR
 have hnt2:(insR S.ri rv m.1).length≤fn.ntmps:=by
  have h1:(roV S.rb r).length≤1:=by unfold roV;cases S.rb<;>simp
  have h2:args.length=S.ts.length:=by
   have:∀(ts:List OT) (y:DenO ts) (vs:List Value) (own:List Nat),RdR P w fz ts y vs own→vs.length=ts.length:=fun ts=>by
    induction ts with
    |nil=>intro y vs own ⟨h,_⟩;rw[h];rfl
    |cons t ts ih=>intro y vs own ⟨v,rest,o1,o2,h,_,_,h2⟩;rw[h,List.length_cons,List.length_cons,ih _ _ _ h2]
   exact this _ _ _ _ hRA
  rw[hlen];simp only[insR,List.length_append,List.length_take,List.length_drop,h2];omega
 have has:Asrt P E fn.ntmps (rid.map fun k=>(k,r)) w (fun b=>b∈roB S.rb r++(own1++own2)) (fun b=>∃c,fz b=some c) (initS 0 (insR S.ri rv m.1) .lf) m.2 { tmps:=(insR S.ri (roV S.rb r) args).toArray++Array.replicate (fn.ntmps-(insR S.ri (roV S.rb r) args).toArray.size) undef,defers:=[]} w:=by
  refine⟨fun i=>i<E.G∨(glSt E).rng m.2 i,ι2,all.a.wf hwf0,?_,?_,initS_rel har hnt2,hHall,rfl,Nat.le_refl _,rfl,rfl,fun _ _ _=>rfl,fun id hw b ho=> ?_,fun id hl b hf=> ?_,fun p hp=> ?_⟩
  ·intro g hg;have:ι2 g=glReg w g:=all.io g fun hr=>by have:E.G≤g:=hr.1;omega
   rw[this];exact⟨.inl hg,rfl,rfl,gl_room hgl⟩
  ·intro id hid;rcases hid with hid|hid
   ·omega
   ·exact hid.2
  ·by_cases hr:(glSt E).rng m.2 id
   ·exact .inr (hsub b (all.own id hr b ho))
   ·exact absurd (hw.of_hdr (by simp only[St.H,all.a.old id hr])) (hroS id)
  ·by_cases hr:(glSt E).rng m.2 id
   ·obtain⟨c,hc⟩:=hf;exact .inr (.inr ⟨c,all.fz id hr b c hc⟩)
   ·rw[all.io id hr] at hf;exact absurd hf (rg_fz _ _ _ _ b)
  ·obtain⟨k,hk,rfl⟩:=List.mem_map.1 hp;obtain⟨h1,h2⟩:=hrid k hk;refine⟨.inr ⟨h2.1,by have:=h2.2;omega⟩,?_⟩;show ι2 k=r;rw[k1.io k fun hr=>hD1 k hr (.inr h2)];exact h1
 have hrown:S.rb=true→r.own=true:=fun hrb=>by
  obtain⟨us,⟨_,_,_,_,_,_,⟨h,_⟩,_⟩,_⟩:=hRt hrb;exact h
 have hrun:zc P E rid sh (zG P E rid sh (finOO E fn S rid) 1000 fn.ntmps 1000 heads0) (finOO E fn S rid) 1000 fn.ntmps 1000 (.run (bodyOf fn) []) (initS 0 (insR S.ri rv m.1) .lf) m.2=some z:=by
  have:=hy;unfold fOO fOON at this;rw[he] at this;simp only[hm] at this;exact this
 have hpins:(rid.map fun k=>(k,r)).map (·.1)=rid:=by rw[List.map_map];exact List.map_id' _
 have hat:At P E fn.ntmps (rid.map fun k=>(k,r)) (QOO P fn S r (own1++own2) z fz) (fun _ b=>b∈roB S.rb r++(own1++own2)) (fun _ b=>∃c,fz b=some c) (.run (bodyOf fn) []) (initS 0 (insR S.ri rv m.1) .lf) m.2:=by
  have hfin:=finOO_at hE (nt:=fn.ntmps) (r:=r) (own:=own1++own2) (rid:=rid) (fz0:=fz) (fn:=fn) (S:=S) (z:=z) hrown;refine zc_sound hE (pin:=rid.map fun k=>(k,r)) (rec:=zG P E rid sh (finOO E fn S rid) 1000 fn.ntmps 1000 heads0) (fin:=finOO E fn S rid) (y:=z) hfin (fun b ks l objs hh=> ?_) 1000 _ _ _ (by rw[hpins];exact hrun)
  exact zG_sound hE (pin:=rid.map fun k=>(k,r)) hfin heads0 b ks l objs (by rw[hpins];exact hh)
 have hbody:body=bodyOf fn:=by simp only[bodyOf,hb]
 have hwp:=hat w _ w has;refine calls_of_wp hfn hb (wp_mono (by rw[hbody];exact hwp) ?_);intro e a w' hq;cases e with
 |normal=>obtain⟨h1,v,h2,h3⟩:=hq;exact⟨h1,v,h2,h3 hz hF0⟩
 |ret=>obtain⟨h1,v,h2,h3⟩:=hq;exact⟨h1,v,h2,h3 hz hF0⟩
 |panic ch=>obtain⟨h1,h3⟩:=hq;exact⟨h1,h3 hz hF0⟩
 |outgrown=>exact hq hz hF0
 |exit id=>exact hq
 |goto l=>exact hq
omit hE in
theorem ObjC.nice {gl:List (Nat×List Value)} {f:FuncId} {S:OSpec} {g:S.root.Den→DenO S.ts→Option (S.root.Den×DenO S.rs)} (h:ObjC P gl f (ofOO S g)) {pre:S.root.Den→DenO S.ts→Bool} {n:S.root.Den→DenO S.ts→S.root.Den×DenO S.rs}
  (hn:∀x y,pre x y=true→g x y=some (n x y)):ObjC P gl f (niceO S pre n):=by
 intro fz w r own1 own2 args x y hz hgl hN hF0 hGo hRt hRn hRA hpre;have e:=hn x y hpre;have:=h fz w r own1 own2 args x y hz hgl hN hF0 hGo hRt hRn hRA (by show(g x y).isSome=true;rw[e];rfl);have e2:(ofOO S g).g x y=n x y:=by show(g x y).getD _=n x y;rw[e];rfl
 rw[e2] at this;exact this
def ospL:List (Nat×OSpec)→FuncId→Option OSpec
 |[],_=>none
 |(g,S)::r,f=>bif Nat.beq g f then some S else ospL r f
def ObjAll (P:Program) (gl:List (Nat×List Value)):List (Nat×OSpec)→Prop
 |[]=>True
 |(g,S)::r=>ObjC P gl g S∧ObjAll P gl r
omit hE in
theorem ospL_ok {gl:List (Nat×List Value)}:∀{l:List (Nat×OSpec)},ObjAll P gl l→∀f S,ospL l f=some S→ObjC P gl f S
 |[],_,f,S,h=>by cases h
 |(g,T)::r,hp,f,S,h=>by
  simp only[ospL] at h;cases hb:Nat.beq g f
  ·rw[hb] at h;exact ospL_ok hp.2 f S h
  ·rw[hb] at h;have:=Nat.eq_of_beq_eq_true hb;subst this;cases h;exact hp.1
end
end Go.Eng
end
end
end
section
noncomputable section
noncomputable section
namespace Go.Eng
open Go
def finV (E:Env) (fn:Func) (t:Ty) (e:TypeId) (ex:Exit) (s:Tr Value) (σ:St):Option (List t.Den):=
 match(match ex with| .normal=>true| .ret=>true|_=>false) with
 |true=>match resAll E s σ fn.results.toList with
  |some (vs,_)=>match vs with
   |[]=>match σ.heap.get E.G with
    |some (.vec t' ys e')=>if h:t'=t then(bif Nat.beq e' e then some (h▸ys) else none) else none
    |_=>none
   |_=>none
  |none=>none
 |false=>none
def fVN (P:Program) (E:Env) (sh:Shapes) (fn:Func) (t:Ty) (e:TypeId) (N:Nat) (xs:List t.Den):Option (List t.Den):=
 zc P E [E.G] sh (zG P E [E.G] sh (finV E fn t e) 1000 fn.ntmps 1000 N) (finV E fn t e) 1000 fn.ntmps 1000 (.run (bodyOf fn) []) (initS 0 [dt E.G] .lf) ((glSt E).new (.vec t xs e))
def fV (P:Program) (E:Env) (sh:Shapes) (fn:Func) (t:Ty) (e:TypeId) (xs:List t.Den):Option (List t.Den):=fVN P E sh fn t e heads0 xs
def rHV (P:Program) (E:Env) (sh:Shapes) (fn:Func) (t:Ty) (e:TypeId) (n k:Nat) (l:List (Nat×Value)) (objs:List AO):Option (List t.Den):=atHead (zG P E [E.G] sh (finV E fn t e) 1000 fn.ntmps 1000 n) (hdN fn k) l objs
def ofV (t:Ty) (e:TypeId) (g:List t.Den→Option (List t.Den)):VSpec:=⟨t,e,fun x=>(g x).isSome,fun x=>(g x).getD []⟩
section
variable {P:Program} {E:Env} (hE:E.OK P)
def QV (P:Program) (fn:Func) (t:Ty) (e:TypeId) (r:Reg) (ys:List t.Den) (w0:World):Exit→Act→World→Prop:=
 bodyPost P fn fun ev w'=>ev=.returned (.tuple #[])∧HdrOK P (fun _=>r) 0 w' (.vec t ys e)∧w0.heap.size≤w'.heap.size∧w'.os=w0.os∧w'.output=w0.output∧∀b,b<w0.heap.size→¬r.Own b→w'.heap[b]?=w0.heap[b]?
include hE
theorem finV_at {nt:Nat} {r:Reg} {fn:Func} {t:Ty} {e:TypeId} {ys:List t.Den} {z0:World→Nat→Prop} (ex:Exit) (s:Tr Value) (σ:St) (h:finV E fn t e ex s σ=some ys):
  At P E nt [(E.G,r)] (QV P fn t e r ys) (fun _ b=>r.Own b) z0 (.out ex []) s σ:=by
 unfold finV at h
 split at h
 ·rename_i he
  split at h
  ·rename_i vs φ hr
   split at h
   ·split at h
    ·rename_i t' ys' e' hg;by_cases ht:t'=t
     ·subst ht;rw[dif_pos rfl] at h;cases hb:Nat.beq e' e
      ·rw[hb] at h;cases h
      rw[hb] at h;have hb:=Nat.eq_of_beq_eq_true hb;subst hb;cases h;intro w0 a w hs;have key:a.defers=[]∧∃v,(results fn a.tmps).run P w=.ok v w∧(Ending.returned v=.returned (.tuple #[])∧HdrOK P (fun _=>r) 0 w (.vec t' ys' e')∧w0.heap.size≤w.heap.size∧w.os=w0.os∧w.output=w0.output∧∀b,b<w0.heap.size→¬r.Own b→w.heap[b]?=w0.heap[b]?):=by
       obtain⟨D,ι,hwf,hG,hD,hsr,hall,hdf,q1,q2,q3,q4,q5,q6,q7⟩:=hs;obtain⟨l,r1,r2⟩:=results_list hE hr hsr (hall.on _);have hl:l=[]:=by
        have:0=l.length:=by simpa using r2.1
        exact List.eq_nil_of_length_eq_zero this.symm
       subst hl;have hi:=(q7 (E.G,r) (List.mem_singleton.2 rfl)).2;have hh:HdrOK P ι E.G w (.vec t' ys' e'):=hall.hd E.G _ (St.hdr_of hg);exact⟨hdf,_,r1,rfl,hh.as (ι0:=fun _=>r) (c:=0) hi.symm,q1,q2,q3,q4⟩
      cases ex with
      |normal=>exact key
      |ret=>exact key
      |_=>cases he
     ·rw[dif_neg ht] at h;cases h
    ·cases h
   ·cases h
  ·cases h
 ·cases h
theorem vecO (hne:∀p,p∈E.gl→p.2≠[]) {sh:Shapes} {t:Ty} {e:TypeId} {f:FuncId} {fn:Func} (hfn:P.funcs[f]?=some fn) (hb:fn.body.isSome=true) (hnt:1≤fn.ntmps):VecC P E.gl f (ofV t e (fV P E sh fn t e)):=by
 obtain⟨body,hb⟩:=Option.isSome_iff_exists.1 hb;intro r w xs hgl hh hno hpre;have hh:HdrOK P (fun _=>r) 0 w (.vec t xs e):=hh;have hpre:(fV P E sh fn t e xs).isSome=true:=hpre;obtain⟨ys,hy⟩:=Option.isSome_iff_exists.1 hpre;have hg:(ofV t e (fV P E sh fn t e)).g xs=ys:=by show(fV P E sh fn t e xs).getD _=ys;rw[hy];rfl
 rw[hg];have hwf0:=glSt_wf hE [];have hall0:=glSt_hall (P:=P) hne [] hgl;have hN:(glSt E).next=E.G:=rfl;have all:MatP P w r.fz (bif r.own then [r.blk] else []) (fun id=>id<E.G) (glReg w) (glSt E) ((glSt E).new (.vec t xs e)) (upd (glReg w) (glSt E).next r):=.one hh (fun k v hk=>by cases hk) fun _ _ h=>h
 have hmem:∀b,b∈(bif r.own then [r.blk] else []:List Nat)→r.Own b:=fun b hb=>by
  cases ho:r.own
  ·rw[ho] at hb;cases hb
  ·rw[ho,cond_true,List.mem_singleton] at hb;exact⟨ho,hb.symm⟩
 have hroS:∀id,¬Wr (glSt E).H id:=fun id ⟨y,hy,hw⟩=>by
  obtain⟨p,_,_,_,rfl⟩:=glSt_ro (E:=E) [] hy;cases hw
 have hrng:∀id,(glSt E).rng ((glSt E).new (.vec t xs e)) id↔id=E.G:=fun id=>by
  simp only[St.rng,St.new,hN];omega
 have hHall:HAll P (fun i=>i<E.G∨(glSt E).rng ((glSt E).new (.vec t xs e)) i) (upd (glReg w) (glSt E).next r) ((glSt E).new (.vec t xs e)).H w:=MatP.hall all hall0 (fun id h=>h) hroS (fun id hl b hb=>⟨fun ho=>by
  obtain⟨x0,hx0⟩:=hl;obtain⟨p,h1,h2,_⟩:=glSt_ro (E:=E) [] hx0;have h3:b=id:=ho.2.symm;exact hno p h1 (by rw[h2,←h3];exact hmem b hb),rg_fz _ _ _ _ b⟩) fun b hb=>by
   have:=hh.self (hmem b hb);cases hz:r.fz b with
   |none=>rfl
   |some c=>exact absurd ⟨c,hz⟩ this
 obtain⟨q,l,c,hsv⟩:∃q l c,r.sv=.slice q l c:=by
  obtain⟨_,_,h⟩:=hh;rcases h with⟨_,_,q,h⟩|⟨_,_,cap,c,fr,h,_⟩
  ·exact⟨_,_,_,h⟩
  ·exact⟨_,_,_,h⟩
 have hup:upd (glReg w) (glSt E).next r E.G=r:=upd_eq ..;have har:AR (fun i=>i<E.G∨(glSt E).rng ((glSt E).new (.vec t xs e)) i) (upd (glReg w) (glSt E).next r) [dt E.G].toArray #[r.sv]:=by
  refine⟨rfl,fun i x y hx hy=> ?_⟩;rcases i with _|i
  ·simp at hx hy;subst hx hy;rw[hsv];exact .dat _ _ _ _ (.inr ((hrng _).2 rfl)) (by rw[hup];exact hsv)
  ·simp at hx
 have has:Asrt P E fn.ntmps [(E.G,r)] w (fun b=>r.Own b) (fun b=>∃c,r.fz b=some c) (initS 0 [dt E.G] .lf) ((glSt E).new (.vec t xs e)) { tmps:=#[r.sv]++Array.replicate (fn.ntmps-(#[r.sv]:Array Value).size) undef,defers:=[]} w:=by
  refine⟨fun i=>i<E.G∨(glSt E).rng ((glSt E).new (.vec t xs e)) i,upd (glReg w) (glSt E).next r,all.a.wf hwf0,?_,?_,initS_rel har (by simpa using hnt),hHall,rfl,Nat.le_refl _,rfl,rfl,fun _ _ _=>rfl,fun id hw b ho=> ?_,fun id hl b hf=> ?_,fun p hp=> ?_⟩
  ·intro g hg;have:upd (glReg w) (glSt E).next r g=glReg w g:=upd_ne _ _ (by rw[hN];omega);rw[this];exact⟨.inl hg,rfl,rfl,gl_room hgl⟩
  ·intro id hid;rcases hid with hid|hid
   ·show id<E.G+1;omega
   ·exact hid.2
  ·by_cases hr:(glSt E).rng ((glSt E).new (.vec t xs e)) id
   ·exact .inr (hmem b (all.own id hr b ho))
   ·exact absurd (hw.of_hdr (by simp only[St.H,all.a.old id hr])) (hroS id)
  ·by_cases hr:(glSt E).rng ((glSt E).new (.vec t xs e)) id
   ·obtain⟨c,hc⟩:=hf;exact .inr (.inr ⟨c,all.fz id hr b c hc⟩)
   ·rw[all.io id hr] at hf;exact absurd hf (rg_fz _ _ _ _ b)
  ·rw[List.mem_singleton] at hp;subst hp;exact⟨.inr ((hrng _).2 rfl),hup⟩
 have hrun:zc P E [E.G] sh (zG P E [E.G] sh (finV E fn t e) 1000 fn.ntmps 1000 heads0) (finV E fn t e) 1000 fn.ntmps 1000 (.run (bodyOf fn) []) (initS 0 [dt E.G] .lf) ((glSt E).new (.vec t xs e))=some ys:=by
  have:=hy;unfold fV fVN at this;exact this
 have hpins:([(E.G,r)]:List (Nat×Reg)).map (·.1)=[E.G]:=by rw[List.map_cons,List.map_nil]
 have hat:At P E fn.ntmps [(E.G,r)] (QV P fn t e r ys) (fun _ b=>r.Own b) (fun _ b=>∃c,r.fz b=some c) (.run (bodyOf fn) []) (initS 0 [dt E.G] .lf) ((glSt E).new (.vec t xs e)):=by
  have hfin:=finV_at hE (nt:=fn.ntmps) (r:=r) (fn:=fn) (t:=t) (e:=e) (ys:=ys) (z0:=fun _ b=>∃c,r.fz b=some c);refine zc_sound hE (pin:=[(E.G,r)]) (rec:=zG P E [E.G] sh (finV E fn t e) 1000 fn.ntmps 1000 heads0) (fin:=finV E fn t e) (y:=ys) hfin (fun b ks l objs hh=> ?_) 1000 _ _ _ (by rw[hpins];exact hrun)
  exact zG_sound hE (pin:=[(E.G,r)]) hfin heads0 b ks l objs (by rw[hpins];exact hh)
 have hbody:body=bodyOf fn:=by simp only[bodyOf,hb]
 refine calls_of_wp hfn hb ?_;rw[hbody];exact hat w _ w has
end
theorem VecC.nice {P:Program} {gl:List (Nat×List Value)} {f:FuncId} {t:Ty} {e:TypeId} {g:List t.Den→Option (List t.Den)} (h:VecC P gl f (ofV t e g)) {pre:List t.Den→Bool} {n:List t.Den→List t.Den} (hn:∀x,pre x=true→g x=some (n x)):VecC P gl f ⟨t,e,pre,n⟩:=by
 intro r w xs hgl hh hno hpre;have e1:=hn xs hpre;have:=h r w xs hgl hh hno (by show(g xs).isSome=true;rw[e1];rfl);have e2:(ofV t e g).g xs=n xs:=by show(g xs).getD []=_;rw[e1];rfl
 rw[e2] at this;exact this
def vspL:List (Nat×VSpec)→FuncId→Option VSpec
 |[],_=>none
 |p::ps,f=>bif Nat.beq f p.1 then some p.2 else vspL ps f
def VecAll (P:Program) (gl:List (Nat×List Value)):List (Nat×VSpec)→Prop
 |[]=>True
 |p::ps=>VecC P gl p.1 p.2∧VecAll P gl ps
theorem vspL_ok {P:Program} {gl:List (Nat×List Value)}:∀{l:List (Nat×VSpec)},VecAll P gl l→∀f S,vspL l f=some S→VecC P gl f S
 |[],_,f,S,h=>by cases h
 |p::ps,ha,f,S,h=>by
  unfold vspL at h;cases hb:Nat.beq f p.1
  ·rw[hb,cond_false] at h;exact vspL_ok ha.2 f S h
  ·rw[hb,cond_true] at h;cases h;rw[Nat.eq_of_beq_eq_true hb];exact ha.1
end Go.Eng
end
end
end
