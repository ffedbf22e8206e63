/-
  The engine, part N: one operation of a region, and operations in the order of the text. No condition.
-/
import Derived.Test.YtdbaigcnlmnliaaGreatDoorEngX5
noncomputable section
namespace Go.Eng
open Go

def CallF : Type := FuncId → List Value → St → Option (Value × St × Foot)

def aPut (nt : Nat) (s : Tr Value) (dst : Option Tmp) (v : Value) : Option (Tr Value) :=
  match dst with
  | none => some s
  | some d => bif Nat.blt d nt then some (s.set d (some v)) else none

def oget : List Oper → Nat → Option Oper
  | [], _ => none
  | x :: _, 0 => some x
  | _ :: xs, n + 1 => oget xs n
theorem oget_eq : ∀ (l : List Oper) (k : Nat), oget l k = l[k]?
  | [], k => by simp [oget]
  | x :: xs, 0 => by simp [oget]
  | x :: xs, k + 1 => by simp [oget, oget_eq xs k]

/-- it is no bool -/
def notB : Value → Bool
  | .chan (some _) => false
  | .tuple a => !isSyL a.toList
  | _ => true
def aWanted (ops : List Oper) (s : Tr Value) (o : Oper) : Option Bool :=
  match o.guard with
  | none => some true
  | some (j, want) => match oget ops j with
    | some g => match g.dst with
      | some d => match s.get d with
        | some (.bool b) => some (b == want)
        | some v => bif notB v then some false else none
        | none => none
      | none => some false
    | none => some false

/-- a test of which the outcome is not known: it is decided -/
def resolve (v : Value) (σ : St) : Option (Value × St) :=
  match v with
  | .tuple a => match a.toList with
    | [.chan (some 1), .bool b] => match σ.ora with
      | d :: ds => some (.bool (Nat.beq d 1), σ.decide (b = Nat.beq d 1) ds)
      | [] => none
    | _ => some (v, σ)
  | _ => some (v, σ)
theorem resolve_spec {v u : Value} {σ σ' : St} (h : resolve v σ = some (u, σ')) : (u = v ∧ σ' = σ) ∨ ∃ b d ds, v = sy (.bool b) ∧ u = .bool d ∧ σ' = σ.decide (b = d) ds := by
  unfold resolve at h
  split at h
  · rename_i a
    split at h
    · rename_i b hb
      split at h
      · rename_i d ds hd
        cases h
        refine .inr ⟨b, Nat.beq d 1, ds, ?_, rfl, rfl⟩
        obtain ⟨l⟩ := a
        simp only at hb
        rw [hb]
      · cases h
    · cases h; exact .inl ⟨rfl, rfl⟩
  · cases h; exact .inl ⟨rfl, rfl⟩
theorem resolve_abs {v u : Value} {σ σ1 σ' : St} {φ : Foot} (h : resolve v σ1 = some (u, σ')) (a : σ.next ≤ σ1.next ∧ (σ.wf → σ1.wf ∧ AFr σ σ1 φ)) : σ.next ≤ σ'.next ∧ (σ.wf → σ'.wf ∧ AFr σ σ' φ) := by
  rcases resolve_spec h with ⟨-, rfl⟩ | ⟨b, d, ds, -, -, rfl⟩
  · exact a
  · exact ⟨a.1, fun hw => ⟨(a.2 hw).1, (a.2 hw).2.decide _ _⟩⟩
theorem resolve_ok {v u : Value} {σ σ' : St} (h : resolve v σ = some (u, σ')) (ho : σ'.Ok) : σ.Ok ∧ (∀ D ι v', VR D ι v v' → VR D ι u v') ∧ σ'.H = σ.H ∧ σ'.next = σ.next := by
  rcases resolve_spec h with ⟨rfl, rfl⟩ | ⟨b, d, ds, rfl, rfl, rfl⟩
  · exact ⟨ho, fun _ _ _ h => h, rfl, rfl⟩
  · refine ⟨ho.2, fun D ι v' h => ?_, rfl, rfl⟩
    have hb : b = d := ho.1
    cases h with
    | sym _ _ => rw [hb]; exact .bool d
    | tuple as bs hs h =>
      have hb : bs[0]? = some (bs[0]'(by rw [← hs]; exact Nat.succ_pos _)) := Array.getElem?_eq_getElem _
      exact (h 0 _ _ rfl hb).no_chan.elim

def aStep (P : Program) (E : Env) (call : CallF) (nt : Nat) (ops : List Oper) (o : Oper) (s : Tr Value) (σ : St) : Option (Tr Value × St × Foot) :=
  match aWanted ops s o with
  | some true => match aOpS P E s σ o with
    | some (.val r) => match resolve r.v r.σ with
      | some (v, σ') => match aPut nt s o.dst v with
        | some s' => some (s', σ', r.φ)
        | none => none
      | none => none
    | some (.enter f args) => match call f args σ with
      | some (v, σ1, φ) => match resolve v σ1 with
        | some (v, σ') => match aPut nt s o.dst v with
          | some s' => some (s', σ', φ)
          | none => none
        | none => none
      | none => none
    | none => none
  | some false => match aPut nt s o.dst undef with
    | some s' => some (s', σ, .nil)
    | none => none
  | none => none

def evOps (P : Program) (E : Env) (call : CallF) (nt : Nat) (all : List Oper) : List Oper → Tr Value → St → Option (Tr Value × St × Foot)
  | [], s, σ => some (s, σ, .nil)
  | o :: os, s, σ => match aStep P E call nt all o s σ with
    | some (s1, σ1, φ1) => match evOps P E call nt all os s1 σ1 with
      | some (s2, σ2, φ2) => some (s2, σ2, φ1.add φ2)
      | none => none
    | none => none

def SRel (nt : Nat) (D : Nat → Prop) (ι : Nat → Reg) (s : Tr Value) (a : Act) : Prop :=
  a.tmps.size = nt ∧ ∀ t v, s.get t = some v → t < nt ∧ VR D ι v (a.tmps.getD t undef)

structure CallSound (P : Program) (E : Env) (call : CallF) : Prop where
  ok : ∀ f args σ v σ' φ, call f args σ = some (v, σ', φ) → σ.next ≤ σ'.next ∧ (σ.wf → σ'.wf ∧ AFr σ σ' φ) ∧
    (σ'.Ok → ∀ (D : Nat → Prop) (ι : Nat → Reg) (w : World) (args' : Array Value), σ.wf → GI E D ι → (∀ id, σ.rng σ' id → ¬ D id) → AR D ι args.toArray args' → HOn P D ι σ.H φ w →
      Calls P f args' w fun e w' => ∃ v' ι', e = .returned v' ∧ VR (fun i => D i ∨ σ.rng σ' i) ι' v v' ∧ Post P D (σ.rng σ') ι σ.H w φ ι' σ'.H w')

section
variable {P : Program} {E : Env} (hE : E.OK P) {call : CallF} (hC : CallSound P E call) {D : Nat → Prop} {ι : Nat → Reg} {σ σ1 : St} {w : World} {s s1 : Tr Value} {a : Act} {nt : Nat} {ops : Array Oper} {φ : Foot}

theorem rel_of {G : Nat} {x : Operand} (hg : ∀ g, g < G → D g ∧ (ι g).blk = g ∧ (ι g).base = 0) (ht : ∀ t, x = .tmp t → ∀ v, s.get t = some v → VR D ι v (a.tmps.getD t undef)) : Rel G D ι s a.eval x := by
  intro v h
  cases x with
  | tmp t => exact ht t rfl v h
  | const c =>
    simp only [av] at h
    cases hp : plainN 8 c
    · rw [hp] at h; cases h
    · rw [hp, cond_true] at h
      simp only [Option.some.injEq] at h
      subst h
      exact plain_refl 8 c hp
  | global g =>
    simp only [av] at h
    cases hb : Nat.blt g G
    · rw [hb] at h; cases h
    · rw [hb] at h
      cases h
      have hlt : g < G := by simpa using hb
      obtain ⟨h1, h2, h3⟩ := hg g hlt
      have := VR.ptr (D := D) (ι := ι) g 0 h1
      rw [h2, h3] at this
      exact this
  | func f =>
    simp only [av] at h
    cases h
    exact plain_refl 2 _ rfl

/-- what one step writes to the slots -/
def PutSpec (nt : Nat) (s s1 : Tr Value) (dst : Option Tmp) (v : Value) : Prop :=
  (dst = none → s1 = s) ∧ ∀ d, dst = some d → d < nt ∧ ∀ t, s1.get t = if t = d then some v else s.get t
theorem aPut_spec {dst : Option Tmp} {v : Value} (h : aPut nt s dst v = some s1) : PutSpec nt s s1 dst v := by
  unfold aPut at h
  split at h
  · cases h; exact ⟨fun _ => rfl, fun d e => by cases e⟩
  · rename_i d
    cases hb : Nat.blt d nt
    · rw [hb] at h; cases h
    · rw [hb] at h
      cases h
      refine ⟨fun e => (by cases e), fun d' e => ?_⟩
      cases e
      exact ⟨by simpa using hb, fun t => Tr.set_get _ _ _ _⟩

theorem aWanted_run {o : Oper} {b : Bool} (h : aWanted ops.toList s o = some b) (hs : a.tmps.size = nt) (hr : ∀ t, t ∈ o.looksAt ops → ∀ v, s.get t = some v → t < nt ∧ VR D ι v (a.tmps.getD t undef)) :
    Region.wanted o (yielded ops a.tmps) = b := by
  unfold aWanted at h
  unfold Region.wanted
  split at h
  · rename_i hg
    cases h
    rw [hg]
  · rename_i j want hg
    rw [hg]
    simp only
    rw [oget_eq, Array.getElem?_toList] at h
    split at h
    · rename_i g hj
      split at h
      · rename_i d hd
        have hy : yielded ops a.tmps j = match a.tmps[d]? with | some (.bool b) => some b | _ => none := by
          unfold yielded
          rw [hj]
          simp only [Option.bind_some, hd]
          rfl
        have hl : d ∈ o.looksAt ops := by
          unfold Oper.looksAt
          rw [hg]
          simp only [List.mem_append]
          right
          rw [hj]
          simp [hd]
        rw [hy]
        have hlook : ∀ v, s.get d = some v → VR D ι v (a.tmps.getD d undef) ∧ a.tmps[d]? = some (a.tmps.getD d undef) := fun v hv => by
          obtain ⟨h1, h2⟩ := hr d hl v hv
          refine ⟨h2, ?_⟩
          have : d < a.tmps.size := hs ▸ h1
          rw [Array.getElem?_eq_getElem this, Array.getD_eq_getD_getElem?, Array.getElem?_eq_getElem this]
          rfl
        split at h
        · rename_i bb hv
          cases h
          obtain ⟨h1, h2⟩ := hlook _ hv
          rw [h2]
          generalize a.tmps.getD d undef = u at h1
          cases h1
          simp
        · rename_i v hno hv
          cases hj : notB v
          · rw [hj] at h; cases h
          rw [hj, cond_true] at h
          cases h
          obtain ⟨h1, h2⟩ := hlook _ hv
          rw [h2]
          have : ∀ b, a.tmps.getD d undef ≠ .bool b := by
            intro b e
            rw [e] at h1
            cases h1 with
            | junk _ => cases hj
            | sym _ _ => cases hj
            | err _ _ h => cases h
            | bool _ => exact hno b rfl
          split
          · rename_i b e
            simp only [Option.some.injEq] at e
            exact absurd e (this b)
          · simp
        · cases h
      · rename_i hd
        cases h
        unfold yielded
        rw [hj]
        simp [hd]
    · rename_i hj
      cases h
      unfold yielded
      rw [hj]
      simp

theorem looks_operand {o : Oper} {t : Tmp} (h : Operand.tmp t ∈ o.op.operands) : t ∈ o.looksAt ops := by
  unfold Oper.looksAt
  simp only [List.mem_append, List.mem_filterMap]
  exact .inl ⟨.tmp t, by simpa using h, rfl⟩

include hE hC in
theorem aStep_sound {o : Oper} (h : aStep P E call nt ops.toList o s σ = some (s1, σ1, φ)) :
    σ.next ≤ σ1.next ∧ (σ.wf → σ1.wf ∧ AFr σ σ1 φ) ∧ ∃ v, PutSpec nt s s1 o.dst v ∧ (σ1.Ok → 
    ∀ (D : Nat → Prop) (ι : Nat → Reg) (w : World) (a : Act) (i : Nat) (K : Act → World → Prop) (Q : Exit → Act → World → Prop), ops[i]? = some o → σ.wf → GI E D ι → (∀ id, σ.rng σ1 id → ¬ D id) → a.tmps.size = nt →
      (∀ t, t ∈ o.looksAt ops → ∀ v, s.get t = some v → t < nt ∧ VR D ι v (a.tmps.getD t undef)) → HOn P D ι σ.H φ w →
      (∀ v' ι' w', VR (fun i => D i ∨ σ.rng σ1 i) ι' v v' → Post P D (σ.rng σ1) ι σ.H w φ ι' σ1.H w' → K (a.put o.dst v') w') → wpOp P ops Q i K a w) := by
  have hgi : ∀ (D : Nat → Prop) (ι : Nat → Reg) (a : Act), GI E D ι → (∀ t, t ∈ o.looksAt ops → ∀ v, s.get t = some v → t < nt ∧ VR D ι v (a.tmps.getD t undef)) → ∀ x, x ∈ o.op.operands → Rel E.G D ι s a.eval x :=
    fun D ι a hg hr x hx => rel_of hg fun t e v hv => (hr t (looks_operand (e ▸ hx)) v hv).2
  have hrng : ∀ {σ2 : St}, σ1.next = σ2.next → σ.rng σ1 = σ.rng σ2 := fun e => by funext id; simp only [St.rng, e]
  unfold aStep at h
  split at h
  · rename_i hw
    split at h
    · rename_i r hr
      split at h
      · rename_i v σ' hrs
        split at h
        · rename_i s' hp
          cases h
          have hab := resolve_abs hrs (aOpS_abs hr)
          refine ⟨hab.1, hab.2, v, aPut_spec hp, ?_⟩
          intro hok D ι w a i K Q hi hwf hg hd hs hl ho hK
          obtain ⟨k1, k2, k3, k4⟩ := resolve_ok hrs hok
          rw [k3, hrng k4] at hK
          rw [hrng k4] at hd
          have hwt := aWanted_run hw hs hl
          unfold wpOp
          rw [hi]
          simp only [hwt, if_true]
          left
          obtain ⟨_, _, h3⟩ := aOpS_val hE (w := w) hr k1 (hgi D ι a hg hl)
          obtain ⟨nx, v', ι', w', e1, e2, e3, e4⟩ := h3 hwf hd ho
          unfold Oper.wp
          rw [e1]
          rcases e2 with rfl | ⟨rfl, rfl⟩
          · exact hK v' ι' w' (k2 _ _ _ e3) e4
          · exact hK undef ι' w' (k2 _ _ _ e3) e4
        · cases h
      · cases h
    · rename_i f args hr
      split at h
      · rename_i v0 σ0 φ' hc
        split at h
        · rename_i v σ' hrs
          split at h
          · rename_i s' hp
            cases h
            obtain ⟨c1, c2, c3⟩ := hC.ok _ _ _ _ _ _ hc
            have hab := resolve_abs hrs ⟨c1, c2⟩
            refine ⟨hab.1, hab.2, v, aPut_spec hp, ?_⟩
            intro hok D ι w a i K Q hi hwf hg hd hs hl ho hK
            obtain ⟨k1, k2, k3, k4⟩ := resolve_ok hrs hok
            rw [k3, hrng k4] at hK
            rw [hrng k4] at hd
            have hwt := aWanted_run hw hs hl
            unfold wpOp
            rw [hi]
            simp only [hwt, if_true]
            left
            obtain ⟨args', fn, g1, g2, g3⟩ := aOpS_enter hE (w := w) hr (hgi D ι a hg hl)
            unfold Oper.wp
            rw [g3, Oper.upon_enter]
            refine (c3 k1 D ι w args' hwf hg hd g1 ho).mono ?_
            rintro e w' ⟨v', ι', rfl, q1, q2⟩
            exact hK v' ι' w' (k2 _ _ _ q1) q2
          · cases h
        · cases h
      · cases h
    · cases h
  · rename_i hw
    split at h
    · rename_i s' hp
      cases h
      refine ⟨Nat.le_refl _, fun hw => ⟨hw, AFr.refl _ _⟩, undef, aPut_spec hp, ?_⟩
      intro _ D ι w a i K Q hi hwf hg hd hs hl ho hK
      have hwt := aWanted_run hw hs hl
      unfold wpOp
      rw [hi]
      simp only [hwt, Bool.false_eq_true, if_false]
      exact hK undef ι w (plain_refl 2 _ rfl) (Post.same (St.rng_self σ) rfl rfl rfl rfl rfl)
    · cases h
  · cases h
end
end Go.Eng
